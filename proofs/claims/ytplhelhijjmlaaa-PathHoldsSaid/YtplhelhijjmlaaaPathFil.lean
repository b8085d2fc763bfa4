/- Layer 45: usable, filtered and the closures of Pick. -/
import Derived.Test.YtplhelhijjmlaaaPathRNew
set_option linter.unusedSimpArgs false
set_option linter.unusedVariables false
namespace Go.Proofs.Ytplhelhijjmlaaa
open Go Go.RowKit
namespace Pa
open Se (St At Reads Cell)
variable {w0 w : World} {X : List Nat} {L : List At} {g off c : Nat} {p : PP}
set_option maxRecDepth 100000 in
set_option maxHeartbeats 4000000 in
theorem usable_st (hs : St w0 X L w) (x : PS) (hx : okS x) {gr : Int} (hg : grp gr = true) (s : Int) {xs : List Value} (hxs : cS x = xs) {b : Bool} (hb : use gr s x = b) :
    Calls Try.prog 41 #[.agg xs.toArray, .int .i64 gr, .int .i64 s] w fun e w' => e = .returned (.bool b) ∧ St w0 X L w' := by
  have hgb : 0 ≤ gr ∧ gr < 129 := by
    have : 1 ≤ gr ∧ gr ≤ 128 := by simpa [grp] using hg
    omega
  obtain ⟨hg1, hg2⟩ := hgb
  have X0 : xs[0]? = some (.bool x.on) := by rw [← hxs]; rfl
  have X2 : xs[2 + gr.toNat]? = some (.int .i64 (stOf x gr)) := by rw [← hxs]; exact cS_st hx hg
  rcases use_cases x gr s with ⟨h1, hu⟩ | ⟨h1, h2, hu⟩ | ⟨h1, h2, hu⟩
  · rw [h1] at X0
    have HB := Lib.hid (hu.symm.trans hb)
    have Y0 := Lib.hid X0
    clear hu hb h1 X0 X2 hxs hg
    go_enter Try.func41, Try.ntmps41
    go_wp2_with (first | ((with_reducible refine Se.isL (o := ⟨some 9, _, _, _, _, _⟩) ?_); (refine Se.toL rfl (Se.ld (o := ⟨some 9, _, _, _, _, _⟩) hs rfl rfl (Cell.blk 0 rfl Y0.out) (by kernel_rfl) ?_))) | ((first | with_reducible refine Se.ab hs ?_ | with_reducible refine Se.abc hs ?_); clear hs; (first | (generalize w.heap.size = g3; intro w hs))))
    go_ret
    rw [← HB.out]
    exact ⟨rfl, hs.drop⟩
  · rw [h1] at X0
    have HB := Lib.hid (hu.symm.trans hb)
    have Y0 := Lib.hid X0
    have Y2 := Lib.hid X2
    clear hu hb h1 X0 X2 hxs hg
    go_enter Try.func41, Try.ntmps41
    go_wp2_with (first | ((with_reducible refine Se.isL (o := ⟨some 9, _, _, _, _, _⟩) ?_); (refine Se.toL rfl (Se.ld (o := ⟨some 9, _, _, _, _, _⟩) hs rfl rfl (Cell.blk 0 rfl Y0.out) (by kernel_rfl) ?_))) | ((with_reducible refine Se.isL (o := ⟨some 14, _, _, _, _, _⟩) ?_); (refine Se.toL rfl (Se.ld (o := ⟨some 14, _, _, _, _, _⟩) hs rfl rfl (Cell.blk 0 rfl Y2.out) (by kernel_rfl) ?_))) | ((first | with_reducible refine Se.ab hs ?_ | with_reducible refine Se.abc hs ?_); clear hs; (first | (generalize w.heap.size = g3; intro w hs))))
    go_ret
    rw [← HB.out]
    exact ⟨rfl, hs.drop⟩
  · rw [h1] at X0
    rw [h2] at X2
    have HB := Lib.hid (hu.symm.trans hb)
    have Y0 := Lib.hid X0
    have Y2 := Lib.hid X2
    clear hu hb h1 h2 X0 X2 hxs hg
    go_enter Try.func41, Try.ntmps41
    go_wp2_with (first | ((with_reducible refine Se.isL (o := ⟨some 9, _, _, _, _, _⟩) ?_); (refine Se.toL rfl (Se.ld (o := ⟨some 9, _, _, _, _, _⟩) hs rfl rfl (Cell.blk 0 rfl Y0.out) (by kernel_rfl) ?_))) | ((with_reducible refine Se.isL (o := ⟨some 14, _, _, _, _, _⟩) ?_); (refine Se.toL rfl (Se.ld (o := ⟨some 14, _, _, _, _, _⟩) hs rfl rfl (Cell.blk 0 rfl Y2.out) (by kernel_rfl) ?_))) | ((first | with_reducible refine Se.ab hs ?_ | with_reducible refine Se.abc hs ?_); clear hs; (first | (generalize w.heap.size = g3; intro w hs))))
    go_ret
    rw [← HB.out]
    exact ⟨rfl, hs.drop⟩
theorem _root_.Go.Proofs.Ytplhelhijjmlaaa.Se.Cell.cons {L : List At} {g i : Nat} {v : Value} (h : Cell L g i v) (a : At) : Cell (a :: L) g i v := fun w hw => h w fun x hx => hw x (List.mem_cons_of_mem _ hx)
set_option maxRecDepth 100000 in
/-- The closure that asks one path: the captured group and state lie in blocks of their own. -/
theorem pick11_st (hs : St w0 X L w) (x : PS) (hx : okS x) {gr : Int} (hg : grp gr = true) (s : Int) {xs : List Value} (hxs : cS x = xs) {b : Bool} (hb : use gr s x = b) {gb sb : Nat} (h1 : Cell L gb 0 (.int .i64 gr)) (h2 : Cell L sb 0 (.int .i64 s)) :
    Calls Try.prog 40 #[.agg xs.toArray, .pointer (some ⟨gb, 0, none⟩), .pointer (some ⟨sb, 0, none⟩)] w fun e w' => e = .returned (.bool b) ∧ St w0 X L w' := by
  have XL := Lib.hid (show xs.length = 131 by rw [← hxs]; exact cS_length hx)
  have HX := Lib.hid hx
  have HG := Lib.hid hg
  have HXS := Lib.hid hxs
  have HB := Lib.hid hb
  have H1 := Lib.hid h1
  have H2 := Lib.hid h2
  clear hx hg hxs hb h1 h2
  go_enter Try.func40, Try.ntmps40
  go_wp2_with (first | ((with_reducible refine Se.isL (o := ⟨some 5, _, _, _, _, _⟩) ?_); (refine Se.toL rfl (Se.ldw (o := ⟨some 5, _, _, _, _, _⟩) hs rfl rfl ((Reads.blk 0 rfl)) ((by rw [XL.out]; kernel_rfl)) (by kernel_rfl) ?_))) | ((with_reducible refine Se.isL (o := ⟨some 6, _, _, _, _, _⟩) ?_); (refine Se.toL rfl (Se.ld (o := ⟨some 6, _, _, _, _, _⟩) hs rfl rfl (H1.out.cons _) (by kernel_rfl) ?_))) | ((with_reducible refine Se.isL (o := ⟨some 7, _, _, _, _, _⟩) ?_); (refine Se.toL rfl (Se.ld (o := ⟨some 7, _, _, _, _, _⟩) hs rfl rfl (H2.out.cons _) (by kernel_rfl) ?_))) | ((first | with_reducible refine Se.ab hs ?_ | with_reducible refine Se.abc hs ?_); clear hs; (first | (generalize w.heap.size = g3; intro w hs))) | (go_at_call 41; refine Calls.mono (usable_st hs x HX.out HG.out s HXS.out HB.out) ?_; clear hs; rintro e w ⟨rfl, hs⟩))
  go_ret
  exact ⟨rfl, hs.drop⟩
theorem int_info3 : (Try.prog.info? 3).map (fun i => (i.zero, i.size, i.bytes)) = some (some (.int .i64 0), 1, 8) := by kernel_rfl
def vn (k : Nat) : Value := .int .i64 (k : Int)
theorem vn_one (l : List Nat) : ∀ v ∈ l.map vn, v.oneCell' = true := by
  intro v hv
  obtain ⟨k, _, rfl⟩ := List.mem_map.1 hv
  rfl
theorem zOne : ∃ l, (Try.prog.info? 84).bind (fun i => i.zero.map (·.cells.toList)) = some l ∧ l.length = 131 := by
  obtain ⟨z, h1, h2⟩ := iOne
  cases hi : Try.prog.info? 84 with
  | none => simp [hi] at h1
  | some i =>
    simp [hi] at h1
    exact ⟨z.cells.toList, by simp [h1.1], by simpa using h2⟩
set_option maxRecDepth 100000 in
set_option maxHeartbeats 4000000 in
theorem filtered_st (hs : St w0 X L w) (hp : OkP p) (hr : Reads L (some ⟨g, off, none⟩) (cells p.l)) {gr : Int} (hg : grp gr = true) (s : Int) {gb sb : Nat} (h1 : Cell L gb 0 (.int .i64 gr)) (h2 : Cell L sb 0 (.int .i64 s)) :
    Calls Try.prog 39 #[.slice (some ⟨g, off, none⟩) p.l.length c, .func (.func 40) #[] #[.pointer (some ⟨gb, 0, none⟩), .pointer (some ⟨sb, 0, none⟩)]] w fun e w' => ∃ r B c', e = .returned (.slice B (filN p.l gr s p.l.length).length c') ∧ St w0 X (.own 1 r B (filN p.l gr s p.l.length).length c' ((filN p.l gr s p.l.length).map vn) :: L) w' := by
  have HP := Lib.hid hp
  have HR := Lib.hid hr
  have HG := Lib.hid hg
  have H1 := Lib.hid h1
  have H2 := Lib.hid h2
  obtain ⟨n, hn⟩ : ∃ n, n = p.l.length := ⟨_, rfl⟩
  have hn1 : 1 ≤ n := by rw [hn]; exact hp.n1
  have hn2 : n ≤ 32 := by rw [hn]; exact hp.n2
  rw [← hn]
  have HN := Lib.hid hn
  obtain ⟨z, hz, hz2⟩ := zOne
  have Z := Lib.hid hz
  have ZL := Lib.hid hz2
  clear hp hr hg h1 h2 hn hz hz2
  replace hs := hs.nil_own 1 none
  go_enter Try.func39, Try.ntmps39
  go_wp2_with fail
  go_loopg [4, 9] n (fun gh s4 s9 wr => ∃ (i : Nat) (r : Option Nat) (B : Option Addr) (c' m : Nat), gh = n - i ∧ i ≤ n ∧ s9 = .int .i64 i ∧ s4 = .slice B m c' ∧ Hid (m = (filN p.l gr s i).length) ∧ m ≤ i ∧ St w0 X (.own 1 r B m c' ((filN p.l gr s i).map vn) :: L) wr)
  case atStart => exact ⟨0, none, none, 0, 0, rfl, by omega, rfl, rfl, Lib.hid rfl, Nat.le_refl _, hs⟩
  case round =>
    clear hs
    rename World => w
    obtain ⟨i, r, B, c', m, rfl, hi, rfl, rfl, HM, hmi, hs⟩ := hrel
    by_cases hlt : i < n
    · have hlt' : (i : Int) < (n : Int) := by omega
      have hil : i < p.l.length := by have := HN.out; omega
      have hok := okN HP.out hil
      obtain ⟨x, hx⟩ : ∃ x, x = p.l.getD i dead := ⟨_, rfl⟩
      rw [← hx] at hok
      obtain ⟨xs, hxs⟩ : ∃ xs, cS x = xs := ⟨_, rfl⟩
      have XL := Lib.hid (show xs.length = 131 by rw [← hxs]; exact cS_length hok)
      have XO := Lib.hid (show ∀ v ∈ xs, v.oneCell' = true by rw [← hxs]; exact cS_one _)
      have RP := Lib.hid (show Reads L (some ⟨g, off + i * 131, none⟩) xs from hxs ▸ hx ▸ r_pathN HP.out hil HR.out)
      obtain ⟨b, hb⟩ : ∃ b, use gr s x = b := ⟨_, rfl⟩
      have hstep : filN p.l gr s (i + 1) = filN p.l gr s i ++ if b then [i] else [] := by
        show _ ++ (if use gr s (p.l.getD i dead) then [i] else []) = _
        rw [← hx, hb]
      have HOK := Lib.hid hok
      have HXS := Lib.hid hxs
      have HB := Lib.hid hb
      have HST := Lib.hid hstep
      clear hok hx hxs hb hstep hil
      cases b with
      | false =>
        go_wp2_with (first | ((with_reducible refine Se.isL (o := ⟨some 13, _, _, _, _, _⟩) ?_); (refine Se.toL rfl (Se.ldw (o := ⟨some 13, _, _, _, _, _⟩) hs rfl rfl ((RP.out.cons _)) ((by rw [XL.out]; kernel_rfl)) (by kernel_rfl) ?_))) | ((with_reducible refine Se.isL (o := ⟨some 6, _, _, _, _, _⟩) ?_); (refine Se.toL rfl (Se.al (o := ⟨some 6, _, _, _, _, _⟩) hs rfl (Z.out) ?_); clear hs; rintro w g6 - hs)) | ((with_reducible refine Se.isL (o := ⟨none, Op.store 84 _ _, _, _, _, _⟩) ?_); (refine Se.toL rfl (Se.sow 0 hs rfl rfl rfl rfl (XO.out) ((by rw [XL.out]; kernel_rfl)) ((by rw [XL.out, ZL.out])) ?_); clear hs; intro w hs; try simp only [List.set_cons_zero] at hs)) | ((with_reducible refine Se.isL (o := ⟨some 15, _, _, _, _, _⟩) ?_); (refine Se.toL rfl (Se.ldw (o := ⟨some 15, _, _, _, _, _⟩) hs rfl rfl ((Reads.blk 0 rfl)) ((by rw [XL.out]; kernel_rfl)) (by kernel_rfl) ?_))) | (go_at_call 40; refine Calls.mono (pick11_st hs x HOK.out HG.out s HXS.out HB.out ((H1.out.cons _).cons _) ((H2.out.cons _).cons _)) ?_; clear hs; rintro e w ⟨rfl, hs⟩))
        go_roundg (n - (i + 1))
        case measure => omega
        case rel => exact ⟨i + 1, r, B, c', m, rfl, by omega, by go_num, rfl, Lib.hid (by rw [HST.out]; simpa using HM.out), by omega, by rw [HST.out]; simpa using hs.drop⟩
      | true =>
        go_wp2_with (first | ((with_reducible refine Se.isL (o := ⟨some 13, _, _, _, _, _⟩) ?_); (refine Se.toL rfl (Se.ldw (o := ⟨some 13, _, _, _, _, _⟩) hs rfl rfl ((RP.out.cons _)) ((by rw [XL.out]; kernel_rfl)) (by kernel_rfl) ?_))) | ((with_reducible refine Se.isL (o := ⟨some 6, _, _, _, _, _⟩) ?_); (refine Se.toL rfl (Se.al (o := ⟨some 6, _, _, _, _, _⟩) hs rfl (Z.out) ?_); clear hs; rintro w g6 - hs)) | ((with_reducible refine Se.isL (o := ⟨none, Op.store 84 _ _, _, _, _, _⟩) ?_); (refine Se.toL rfl (Se.sow 0 hs rfl rfl rfl rfl (XO.out) ((by rw [XL.out]; kernel_rfl)) ((by rw [XL.out, ZL.out])) ?_); clear hs; intro w hs; try simp only [List.set_cons_zero] at hs)) | ((with_reducible refine Se.isL (o := ⟨some 15, _, _, _, _, _⟩) ?_); (refine Se.toL rfl (Se.ldw (o := ⟨some 15, _, _, _, _, _⟩) hs rfl rfl ((Reads.blk 0 rfl)) ((by rw [XL.out]; kernel_rfl)) (by kernel_rfl) ?_))) | ((with_reducible refine Se.isL (o := ⟨some 19, _, _, _, _, _⟩) ?_); (refine Se.toL rfl (Se.bsv (o := ⟨some 19, _, _, _, _, _⟩) hs rfl Try.underlying91 int_info rfl ([.int .i64 (i : Int)]) (by rfl) (by rfl) (by decide) (by decide) (by simp [Value.oneCell']) ?_); clear hs; rintro w g19 - hs)) | ((with_reducible refine Se.isL (o := ⟨some 20, _, _, _, _, _⟩) ?_); (refine Se.toL rfl (Se.ap (o := ⟨some 20, _, _, _, _, _⟩) 2 hs rfl rfl rfl rfl ((Reads.blk 0 rfl)) Try.underlying91 int_info3 rfl (by decide) ((by simp [Value.oneCell'])) (rfl) ((by omega)) ((by omega)) ?_); clear hs; rintro w r' B' c'' hs; try simp only [List.set_cons_zero, List.set_cons_succ] at hs)) | (go_at_call 40; refine Calls.mono (pick11_st hs x HOK.out HG.out s HXS.out HB.out ((H1.out.cons _).cons _) ((H2.out.cons _).cons _)) ?_; clear hs; rintro e w ⟨rfl, hs⟩))
        go_roundg (n - (i + 1))
        case measure => omega
        case rel => exact ⟨i + 1, r', B', c'', m + 1, rfl, by omega, by go_num, rfl, Lib.hid (by rw [HST.out]; simpa using HM.out), by omega, by rw [HST.out]; simpa [vn] using hs.drop.drop⟩
    · obtain rfl : i = n := by omega
      go_wp2_with fail
      go_ret
      rw [← HM.out]
      exact ⟨r, B, c', rfl, hs⟩
end Pa
end Go.Proofs.Ytplhelhijjmlaaa

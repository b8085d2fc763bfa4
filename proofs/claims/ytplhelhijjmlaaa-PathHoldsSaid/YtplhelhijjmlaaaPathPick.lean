/- Layer 45: Pick. -/
import Derived.Test.YtplhelhijjmlaaaPathFil
set_option linter.unusedSimpArgs false
set_option linter.unusedVariables false
namespace Go.Proofs.Ytplhelhijjmlaaa
open Go Go.RowKit
namespace Pa
open Se (St At Reads Cell)
variable {w0 w : World} {X : List Nat} {L : List At} {g off c : Nat} {p : PP}
set_option maxRecDepth 100000 in
theorem pick1_st {D pb gb : Nat} (hs : St w0 X L w) (hp : OkP p) (hP : Cell L pb 0 (.pointer (some ⟨D, 0, none⟩))) (hD : Cell L D 1 (.slice (some ⟨g, off, none⟩) p.l.length c)) (hr : Reads L (some ⟨g, off, none⟩) (cells p.l)) {gr : Int} (hg : grp gr = true) (hG : Cell L gb 0 (.int .i64 gr)) (s : Int) {F : List Nat} (hF : filN p.l gr s p.l.length = F) :
    Calls Try.prog 38 #[.int .i64 s, .pointer (some ⟨pb, 0, none⟩), .pointer (some ⟨gb, 0, none⟩)] w fun e w' => ∃ r B c', e = .returned (.slice B F.length c') ∧ St w0 X (.own 1 r B F.length c' (F.map vn) :: L) w' := by
  have HP := Lib.hid hp
  have H1 := Lib.hid hP
  have H2 := Lib.hid hD
  have H3 := Lib.hid hG
  have HR := Lib.hid hr
  have HG := Lib.hid hg
  have HF := Lib.hid (fun (L : List At) (gb sb c : Nat) (w : World) (hs : St w0 X L w) (hr : Reads L (some ⟨g, off, none⟩) (cells p.l)) (h1 : Cell L gb 0 (.int .i64 gr)) (h2 : Cell L sb 0 (.int .i64 s)) => show Calls Try.prog 39 #[.slice (some ⟨g, off, none⟩) p.l.length c, .func (.func 40) #[] #[.pointer (some ⟨gb, 0, none⟩), .pointer (some ⟨sb, 0, none⟩)]] w fun e w' => ∃ r B c', e = .returned (.slice B F.length c') ∧ St w0 X (.own 1 r B F.length c' (F.map vn) :: L) w' by
    have := filtered_st (c := c) hs hp hr hg s h1 h2
    rwa [hF] at this)
  clear hp hP hD hr hg hG hF
  go_enter Try.func38, Try.ntmps38
  go_wp2_with (first | ((with_reducible refine Se.isL (o := ⟨some 5, _, _, _, _, _⟩) ?_); (refine Se.toL rfl (Se.ld (o := ⟨some 5, _, _, _, _, _⟩) hs rfl rfl (H1.out.cons _) (by kernel_rfl) ?_))) | ((with_reducible refine Se.isL (o := ⟨some 8, _, _, _, _, _⟩) ?_); (refine Se.toL rfl (Se.ld (o := ⟨some 8, _, _, _, _, _⟩) hs rfl rfl (H2.out.cons _) (by kernel_rfl) ?_))) | ((first | with_reducible refine Se.ab hs ?_ | with_reducible refine Se.abc hs ?_); clear hs; (first | (generalize w.heap.size = g3; intro w hs))) | (go_at_call 39; refine Calls.mono (HF.out _ _ _ _ _ hs (HR.out.cons _) (H3.out.cons _) (Cell.blk 0 rfl rfl)) ?_; clear hs; rintro e w ⟨r, B, c', rfl, hs⟩))
  go_ret
  exact ⟨r, B, c', rfl, hs.u11.drop⟩
set_option maxRecDepth 100000 in
theorem pick2_st {D pb : Nat} (hs : St w0 X L w) (hp : OkP p) (hP : Cell L pb 0 (.pointer (some ⟨D, 0, none⟩))) (hD : Cell L D 1 (.slice (some ⟨g, off, none⟩) p.l.length c)) (hr : Reads L (some ⟨g, off, none⟩) (cells p.l)) (a b : Nat) (ha : a < p.l.length) (hb : b < p.l.length) :
    Calls Try.prog 43 #[.int .i64 a, .int .i64 b, .pointer (some ⟨pb, 0, none⟩)] w fun e w' => e = .returned (.int .i64 ((p.l.getD a dead).b - (p.l.getD b dead).b)) ∧ St w0 X L w' := by
  have oa := okN hp ha
  have ob := okN hp hb
  obtain ⟨x, hx⟩ : ∃ x, x = (p.l.getD a dead).b := ⟨_, rfl⟩
  obtain ⟨y, hy⟩ : ∃ y, y = (p.l.getD b dead).b := ⟨_, rfl⟩
  have bx : 0 ≤ x ∧ x ≤ 1099511627776 := by rw [hx]; exact ⟨oa.1, oa.2.1⟩
  have bY : 0 ≤ y ∧ y ≤ 1099511627776 := by rw [hy]; exact ⟨ob.1, ob.2.1⟩
  have Ca : Cell L g (off + a * 131 + 1) (.int .i64 x) := hx ▸ (r_pathN hp ha hr).cell 1 rfl
  have Cb : Cell L g (off + b * 131 + 1) (.int .i64 y) := hy ▸ (r_pathN hp hb hr).cell 1 rfl
  rw [← hx, ← hy]
  obtain ⟨n, hn⟩ : ∃ n, n = p.l.length := ⟨_, rfl⟩
  have hn2 : n ≤ 32 := by rw [hn]; exact hp.n2
  rw [← hn] at ha hb hD
  have ha' : (a : Int) < (n : Int) := by omega
  have hb' : (b : Int) < (n : Int) := by omega
  have H1 := Lib.hid hP
  have H2 := Lib.hid hD
  have H3 := Lib.hid Ca
  have H4 := Lib.hid Cb
  have hw := IntWalk.i64_in (x - y) (by omega)
  obtain ⟨bx1, bx2⟩ := bx
  obtain ⟨bY1, bY2⟩ := bY
  clear oa ob hx hy Ca Cb hP hD hr hp hn
  go_enter Try.func43, Try.ntmps43
  go_wp2_with fail
  refine Ch.region' 20 (fun wx => wx.cell? ⟨pb, 0, none⟩ = some (.pointer (some ⟨D, 0, none⟩)) ∧ wx.cell? ⟨D, 1, none⟩ = some (.slice (some ⟨g, off, none⟩) n c) ∧ wx.cell? ⟨g, off + a * 131 + 1, none⟩ = some (.int .i64 x) ∧ wx.cell? ⟨g, off + b * 131 + 1, none⟩ = some (.int .i64 y)) (fun  | _ => false) (by kernel_rfl) (by decide +kernel) (⟨H1.out _ hs.drew.hold, H2.out _ hs.drew.hold, H3.out _ hs.drew.hold, H4.out _ hs.drew.hold⟩) ?_
  replace hs := hs.drew
  generalize w.drew = w at hs ⊢
  change Ch.CW _ _ _ _ _ [0, 1, 2, 3, 4, 5, 6, 7, 8, 9, 10, 11, 12, 13, 14, 15, 16, 17, 18, 19] _ _
  refine Ch.pure (v := .pointer (some ⟨D, 0, none⟩)) (by rfl) (by rfl) (by rfl) (fun wx hS => Se.xl rfl rfl hS.1 (by kernel_rfl)) ?_
  (try simp only [Act.put, List.setIfInBounds_toArray, List.set_cons_zero, List.set_cons_succ])
  iterate 2 (refine Ch.pure (v := ?_) (by rfl) (by rfl) (by rfl) (fun wx hS => ?_) ?_; rotate_left; (focus (go_simp; (first | done | with_reducible rfl))); (try simp only [Act.put, List.setIfInBounds_toArray, List.set_cons_zero, List.set_cons_succ]))
  refine Ch.pure (v := .slice (some ⟨g, off, none⟩) n c) (by rfl) (by rfl) (by rfl) (fun wx hS => Se.xl rfl rfl hS.2.1 (by kernel_rfl)) ?_
  (try simp only [Act.put, List.setIfInBounds_toArray, List.set_cons_zero, List.set_cons_succ])
  iterate 4 (refine Ch.pure (v := ?_) (by rfl) (by rfl) (by rfl) (fun wx hS => ?_) ?_; rotate_left; (focus (go_simp; (first | done | with_reducible rfl))); (try simp only [Act.put, List.setIfInBounds_toArray, List.set_cons_zero, List.set_cons_succ]))
  refine Ch.pure (v := .int .i64 x) (by rfl) (by rfl) (by rfl) (fun wx hS => Se.xl rfl rfl hS.2.2.1 (by kernel_rfl)) ?_
  (try simp only [Act.put, List.setIfInBounds_toArray, List.set_cons_zero, List.set_cons_succ])
  refine Ch.pure (v := .pointer (some ⟨D, 0, none⟩)) (by rfl) (by rfl) (by rfl) (fun wx hS => Se.xl rfl rfl hS.1 (by kernel_rfl)) ?_
  (try simp only [Act.put, List.setIfInBounds_toArray, List.set_cons_zero, List.set_cons_succ])
  iterate 2 (refine Ch.pure (v := ?_) (by rfl) (by rfl) (by rfl) (fun wx hS => ?_) ?_; rotate_left; (focus (go_simp; (first | done | with_reducible rfl))); (try simp only [Act.put, List.setIfInBounds_toArray, List.set_cons_zero, List.set_cons_succ]))
  refine Ch.pure (v := .slice (some ⟨g, off, none⟩) n c) (by rfl) (by rfl) (by rfl) (fun wx hS => Se.xl rfl rfl hS.2.1 (by kernel_rfl)) ?_
  (try simp only [Act.put, List.setIfInBounds_toArray, List.set_cons_zero, List.set_cons_succ])
  iterate 4 (refine Ch.pure (v := ?_) (by rfl) (by rfl) (by rfl) (fun wx hS => ?_) ?_; rotate_left; (focus (go_simp; (first | done | with_reducible rfl))); (try simp only [Act.put, List.setIfInBounds_toArray, List.set_cons_zero, List.set_cons_succ]))
  refine Ch.pure (v := .int .i64 y) (by rfl) (by rfl) (by rfl) (fun wx hS => Se.xl rfl rfl hS.2.2.2 (by kernel_rfl)) ?_
  (try simp only [Act.put, List.setIfInBounds_toArray, List.set_cons_zero, List.set_cons_succ])
  iterate 2 (refine Ch.pure (v := ?_) (by rfl) (by rfl) (by rfl) (fun wx hS => ?_) ?_; rotate_left; (focus (go_simp; (first | done | with_reducible rfl))); (try simp only [Act.put, List.setIfInBounds_toArray, List.set_cons_zero, List.set_cons_succ]))
  refine Ch.done ?_
  simp only [List.drop_succ_cons, List.drop_zero]
  go_wp2_with fail
  go_ret
  exact ⟨by simp, hs⟩
set_option maxRecDepth 100000 in
set_option maxHeartbeats 4000000 in
theorem minFunc_st {D pb : Nat} (hs : St w0 X L w) (hp : OkP p) (hP : Cell L pb 0 (.pointer (some ⟨D, 0, none⟩))) (hD : Cell L D 1 (.slice (some ⟨g, off, none⟩) p.l.length c)) (hr : Reads L (some ⟨g, off, none⟩) (cells p.l)) (F : List Nat) (hF : ∀ j ∈ F, j < p.l.length) (hF0 : F ≠ []) (hFl : F.length ≤ 1000) {B : Option Addr} {c' : Nat} (hB : Reads L B (F.map vn)) :
    Calls Try.prog 42 #[.slice B F.length c', .func (.func 43) #[] #[.pointer (some ⟨pb, 0, none⟩)]] w fun e w' => e = .returned (.int .i64 (minN p.l F (F.length - 1) : Nat)) ∧ St w0 X L w' := by
  have HP := Lib.hid hp
  have H1 := Lib.hid hP
  have H2 := Lib.hid hD
  have HR := Lib.hid hr
  have HF := Lib.hid hF
  obtain ⟨m, hm⟩ : ∃ m, m = F.length := ⟨_, rfl⟩
  have hm0 : 0 < m := by rw [hm]; exact List.length_pos_iff.2 hF0
  obtain ⟨bg, bo, rfl⟩ : ∃ bg bo, B = some ⟨bg, bo, none⟩ := by
    obtain ⟨bg, bo, h, _⟩ := (hB w hs.hold).cells (by simpa using hF0)
    exact ⟨bg, bo, h⟩
  rw [← hm]
  rw [← hm] at hFl
  have CB := Lib.hid (fun i (h : i < m) => show Cell L bg (bo + i) (.int .i64 (F.getD i 0 : Nat)) from hB.cell i (by
    rw [List.getElem?_map, List.getElem?_eq_getElem (by omega)]
    simp [vn, List.getD_eq_getElem?_getD, List.getElem?_eq_getElem (show i < F.length by omega)]))
  have CB0 := Lib.hid (show Cell L bg bo (.int .i64 (F.getD 0 0 : Nat)) from CB.out 0 hm0)
  have FL := Lib.hid (fun i (h : i < m) => show F.getD i 0 < p.l.length by
    rw [List.getD_eq_getElem?_getD, List.getElem?_eq_getElem (by omega)]; exact hF _ (List.getElem_mem _))
  have ML := Lib.hid (show ∀ i, i < m → minN p.l F i < p.l.length by
    intro i
    induction i with
    | zero => intro h; exact FL.out 0 h
    | succ i ih => intro h; unfold minN; split; exact FL.out _ h; exact ih (by omega))
  have HM := Lib.hid hm
  have hd : decide ((m : Int) < 1) = false := by simp; omega
  have hd2 : 1 ≤ (m : Int) := by omega
  clear hp hP hD hr hF hF0 hm hB
  go_enter Try.func42, Try.ntmps42
  go_wp2_with (first | ((with_reducible refine Se.isL (o := ⟨some 13, _, _, _, _, _⟩) ?_); (refine Se.toL rfl (Se.ld (o := ⟨some 13, _, _, _, _, _⟩) hs rfl rfl (CB0.out) (by kernel_rfl) ?_))))
  clear hd hd2
  go_loopg [5, 6] (m - 1) (fun gh s5 s6 wr => ∃ i : Nat, gh = m - i ∧ 1 ≤ i ∧ i ≤ m ∧ s6 = .int .i64 i ∧ s5 = .int .i64 (minN p.l F (i - 1) : Nat) ∧ St w0 X L wr)
  case atStart => exact ⟨1, rfl, by omega, by omega, rfl, rfl, hs⟩
  case round =>
    clear hs
    rename World => w
    obtain ⟨i, rfl, hi1, hi2, rfl, rfl, hs⟩ := hrel
    by_cases hlt : i < m
    · have hlt' : (i : Int) < (m : Int) := by omega
      obtain ⟨k, rfl⟩ : ∃ k, i = k + 1 := ⟨i - 1, by omega⟩
      simp only [Nat.add_sub_cancel]
      obtain ⟨a, ha⟩ : ∃ a, a = F.getD (k + 1) 0 := ⟨_, rfl⟩
      obtain ⟨b, hb⟩ : ∃ b, b = minN p.l F k := ⟨_, rfl⟩
      have HA := Lib.hid (show a < p.l.length by rw [ha]; exact FL.out _ hlt)
      have HBl := Lib.hid (show b < p.l.length by rw [hb]; exact ML.out _ (by omega))
      have C1 := Lib.hid (show Cell L bg (bo + (k + 1)) (.int .i64 a) by rw [ha]; exact CB.out _ hlt)
      obtain ⟨x, hx⟩ : ∃ x, x = (p.l.getD a dead).b := ⟨_, rfl⟩
      obtain ⟨y, hy⟩ : ∃ y, y = (p.l.getD b dead).b := ⟨_, rfl⟩
      have P2 := Lib.hid (fun w (hs : St w0 X L w) => show Calls Try.prog 43 #[.int .i64 a, .int .i64 b, .pointer (some ⟨pb, 0, none⟩)] w fun e w' => e = .returned (.int .i64 (x - y)) ∧ St w0 X L w' by
        have := pick2_st hs HP.out H1.out H2.out HR.out a b HA.out HBl.out
        rwa [← hx, ← hy] at this)
      have hstep : minN p.l F (k + 1) = if x < y then a else b := by
        rw [hx, hy, ha, hb]; rfl
      rw [← hb]
      clear ha hb hx hy
      by_cases hxy : x < y
      · have HS := Lib.hid (hstep.trans (if_pos hxy))
        have hxy' : x - y < 0 := by omega
        clear hstep hxy
        go_wp2_with (first | ((with_reducible refine Se.isL (o := ⟨some 24, _, _, _, _, _⟩) ?_); (refine Se.toL rfl (Se.ld (o := ⟨some 24, _, _, _, _, _⟩) hs rfl rfl (C1.out) (by kernel_rfl) ?_))) | ((with_reducible refine Se.isL (o := ⟨some 31, _, _, _, _, _⟩) ?_); (refine Se.toL rfl (Se.ld (o := ⟨some 31, _, _, _, _, _⟩) hs rfl rfl (C1.out) (by kernel_rfl) ?_))) | (go_at_call 43; refine Calls.mono (P2.out _ hs) ?_; clear hs; rintro e w ⟨rfl, hs⟩))
        go_roundg (m - (k + 1 + 1))
        case measure => omega
        case rel => exact ⟨k + 1 + 1, rfl, by omega, by omega, by go_num, by rw [Nat.add_sub_cancel, HS.out], hs⟩
      · have HS := Lib.hid (hstep.trans (if_neg hxy))
        have hxy' : 0 ≤ x - y := by omega
        clear hstep hxy
        go_wp2_with (first | ((with_reducible refine Se.isL (o := ⟨some 24, _, _, _, _, _⟩) ?_); (refine Se.toL rfl (Se.ld (o := ⟨some 24, _, _, _, _, _⟩) hs rfl rfl (C1.out) (by kernel_rfl) ?_))) | (go_at_call 43; refine Calls.mono (P2.out _ hs) ?_; clear hs; rintro e w ⟨rfl, hs⟩))
        go_roundg (m - (k + 1 + 1))
        case measure => omega
        case rel => exact ⟨k + 1 + 1, rfl, by omega, by omega, by go_num, by rw [Nat.add_sub_cancel, HS.out], hs⟩
    · obtain rfl : i = m := by omega
      go_wp2_with fail
      go_ret
      exact ⟨rfl, hs⟩
end Pa
end Go.Proofs.Ytplhelhijjmlaaa

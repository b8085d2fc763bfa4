/- Layer 45: the reference's Pick. -/
import Derived.Test.YtplhelhijjmlaaaPathRLearn
set_option linter.unusedSimpArgs false
set_option linter.unusedVariables false
namespace Go.Proofs.Ytplhelhijjmlaaa
open Go Go.RowKit
namespace Pa
open Se (St At Reads Cell)
variable {w0 w : World} {X : List Nat} {L : List At} {A : Option Addr} {c : Nat} {p : PP}
def bI : Option Nat → Int
  | none => -1
  | some k => k
theorem bI_bd (l : List PS) (g s : Int) : ∀ k, -1 ≤ bI (bestN l g s k) ∧ bI (bestN l g s k) < k
  | 0 => by simp [bestN, bI]
  | k + 1 => by
    have h := bI_bd l g s k
    unfold bestN
    cases hb : bestN l g s k with
    | none => dsimp only; split <;> simp [bI] <;> omega
    | some j => rw [hb] at h; simp only [bI] at h; dsimp only; split <;> simp only [bI] <;> omega
theorem rngN {k : Nat} (h : k < p.l.length) : rng p (k : Int) = 0 := by unfold rng; rw [if_pos (by omega)]
theorem getN (p : PP) (k : Nat) : get p (k : Int) = p.l.getD k dead := by simp [get]
theorem anyN_mono (l : List PS) (g s : Int) {i : Nat} (h : anyN l g s (i + 1) = true) : ∀ {n : Nat}, i < n → anyN l g s n = true
  | n + 1, hn => by
    by_cases e : n = i
    · subst e; exact h
    · have := anyN_mono l g s h (n := n) (by omega)
      simp [anyN, this]
theorem r_pathN (hp : OkP p) {k : Nat} (hk : k < p.l.length) {g off : Nat} (h : Reads L (some ⟨g, off, none⟩) (cells p.l)) : Reads L (some ⟨g, off + k * 131, none⟩) (cS (p.l.getD k dead)) := by
  have := r_path hp (rngN hk) h
  simpa [getN] using this
theorem okN (hp : OkP p) {k : Nat} (hk : k < p.l.length) : okS (p.l.getD k dead) := by
  have := hp.get (rngN hk); rwa [getN] at this
theorem cS_st {x : PS} (hx : okS x) {gr : Int} (hg : grp gr = true) : (cS x)[2 + gr.toNat]? = some (.int .i64 (stOf x gr)) := by
  have h2 : 1 ≤ gr ∧ gr ≤ 128 := by simpa [grp] using hg
  have hl := hx.2.2
  rw [Nat.add_comm 2]
  simp only [cS, List.getElem?_cons_succ, List.getElem?_map, stOf, List.getD_eq_getElem?_getD]
  rw [List.getElem?_eq_getElem (by omega)]; simp
theorem pick_1 {g : Int} (hg : grp g = true) {j : Nat} (h : bestN p.l g 1 p.l.length = some j) : pick p g = ((j : Int), 0) := by
  unfold pick; rw [if_neg (by simp [hg]), h]
theorem pick_2 {g : Int} (hg : grp g = true) {j : Nat} (h1 : bestN p.l g 1 p.l.length = none) (h : bestN p.l g 2 p.l.length = some j) : pick p g = ((j : Int), 0) := by
  unfold pick; rw [if_neg (by simp [hg]), h1]; simp only []; rw [h]
theorem pick_3 {g : Int} (hg : grp g = true) (h1 : bestN p.l g 1 p.l.length = none) (h : bestN p.l g 2 p.l.length = none) : pick p g = if anyN p.l g 15 p.l.length then (0, 11) else (0, 9) := by
  unfold pick; rw [if_neg (by simp [hg]), h1]; simp only []; rw [h]
/-- One path as the loops see it. -/
theorem use_cases (x : PS) (g s : Int) : (x.on = false ∧ use g s x = false) ∨ (x.on = true ∧ (stOf x g == s) = false ∧ use g s x = false) ∨ (x.on = true ∧ stOf x g = s ∧ use g s x = true) := by
  unfold use
  cases x.on
  · simp
  · by_cases h : stOf x g = s <;> simp [h]
set_option maxRecDepth 100000 in
set_option maxHeartbeats 8000000 in
theorem rPick_st (hs : St w0 X L w) (hm : At.rd A (cells p.l) ∈ L) (hp : OkP p) (gr : Int) :
    Calls Try.prog 51 #[rv p A c, .int .i64 gr] w fun e w' => e = .returned (.tuple #[.int .i64 (pick p gr).1, .int .i64 (pick p gr).2]) ∧ St w0 X L w' := by
  have HP := Lib.hid hp
  obtain ⟨g, off, rfl⟩ := rd_some hs hm hp
  have HM := Lib.hid hm
  obtain ⟨z, hz, hz2⟩ := zRL
  have Z := Lib.hid hz
  have ZL := Lib.hid hz2
  obtain ⟨n, hn⟩ : ∃ n, n = p.l.length := ⟨_, rfl⟩
  have hn1 : 1 ≤ n := by rw [hn]; exact hp.n1
  have hn2 : n ≤ 32 := by rw [hn]; exact hp.n2
  have HN := Lib.hid hn
  clear hz hz2 hm hp
  cases hg : grp gr with
  | false =>
    have hf := Lib.hid (show pick p gr = (0, 2) by unfold pick; rw [if_pos hg])
    have HG := Lib.hid hg
    clear hg hn
    go_enter Try.func51, Try.ntmps51
    go_wp2_with (first | ((first | with_reducible refine Se.ab hs ?_ | with_reducible refine Se.abc hs ?_); clear hs; (first | (generalize w.heap.size = g2; intro w hs))) | (go_at_call 57; refine Calls.mono (rgroup_st' hs gr HG.out) ?_; clear hs; rintro e w ⟨rfl, hs⟩))
    go_ret2
    rw [hf.out]
    exact ⟨rfl, hs.drop⟩
  | true =>
    have HG := Lib.hid hg
    have hgb : 0 ≤ gr ∧ gr < 129 := by
      have : 1 ≤ gr ∧ gr ≤ 128 := by simpa [grp] using hg
      omega
    obtain ⟨hg1, hg2⟩ := hgb
    rw [show rv p (some ⟨g, off, none⟩) c = .agg #[.int .i64 p.tries, .slice (some ⟨g, off, none⟩) n c] by rw [hn]]
    clear hg hn
    generalize htr : p.tries = tr
    clear htr
    go_enter Try.func51, Try.ntmps51
    go_wp2_with (first | ((first | with_reducible refine Se.ab hs ?_ | with_reducible refine Se.abc hs ?_); clear hs; (first | (generalize w.heap.size = g2; intro w hs))) | (go_at_call 57; refine Calls.mono (rgroup_st' hs gr HG.out) ?_; clear hs; rintro e w ⟨rfl, hs⟩))
    go_loopg [6] 2 (fun gh s6 wr => ∃ s : Int, gh = (3 - s).toNat ∧ 1 ≤ s ∧ s ≤ 3 ∧ s6 = .int .i64 s ∧ Hid (∀ s', 1 ≤ s' → s' < s → bestN p.l gr s' n = none) ∧ St w0 X (.blk g2 59 [.int .i64 tr, .slice (some ⟨g, off, none⟩) n c] :: L) wr)
    case atStart => exact ⟨1, rfl, by omega, by omega, rfl, Lib.hid (fun s' h1 h2 => by omega), hs⟩
    case round =>
      clear hs
      rename World => w
      obtain ⟨s, rfl, hs1, hs3, rfl, HB, hs⟩ := hrel
      by_cases hs2 : s ≤ 2
      · clear hs3
        go_wp2_with fail
        go_loopg [7, 8] n (fun gh s7 s8 wr => ∃ i : Nat, gh = n - i ∧ i ≤ n ∧ s7 = .int .i64 (bI (bestN p.l gr s i)) ∧ s8 = .int .i64 i ∧ St w0 X (.blk g2 59 [.int .i64 tr, .slice (some ⟨g, off, none⟩) n c] :: L) wr)
        case atStart => exact ⟨0, rfl, by omega, rfl, rfl, hs⟩
        case round =>
          clear hs
          rename World => w
          obtain ⟨i, rfl, hi, rfl, rfl, hs⟩ := hrel
          have hbb := bI_bd p.l gr s i
          by_cases hlt : i < n
          · have hlt' : (i : Int) < (n : Int) := by omega
            have hil : i < p.l.length := by have := HN.out; omega
            have hok := okN HP.out hil
            obtain ⟨x, hx⟩ : ∃ x, x = p.l.getD i dead := ⟨_, rfl⟩
            rw [← hx] at hok
            have hstep : bestN p.l gr s (i + 1) = match bestN p.l gr s i with
                | none => if use gr s x then some i else none
                | some j => if use gr s x && decide (x.b < (p.l.getD j dead).b) then some i else some j := by rw [hx]; rfl
            obtain ⟨xs, hxs⟩ : ∃ xs, xs = cS x := ⟨_, rfl⟩
            have XL := Lib.hid (show xs.length = 131 by rw [hxs]; exact cS_length hok)
            have XO := Lib.hid (show ∀ v ∈ xs, v.oneCell' = true by rw [hxs]; exact cS_one _)
            have X1 := Lib.hid (show xs[1]? = some (.int .i64 x.b) by rw [hxs]; rfl)
            have X2 := Lib.hid (show xs[2 + gr.toNat]? = some (.int .i64 (stOf x gr)) by rw [hxs]; exact cS_st hok HG.out)
            have RP := Lib.hid (show ∀ L : List At, At.rd (some ⟨g, off, none⟩) (cells p.l) ∈ L → Reads L (some ⟨g, off + i * 131, none⟩) xs from fun _ h => hxs ▸ hx ▸ r_pathN HP.out hil (Reads.rdm h))
            have X0' : xs[0]? = some (.bool x.on) := by rw [hxs]; rfl
            have HX := Lib.hid hx
            clear hxs hx hok hil
            rcases use_cases x gr s with ⟨h1, hu⟩ | ⟨h1, h2, hu⟩ | ⟨h1, h2, hu⟩
            · have hb : bestN p.l gr s (i + 1) = bestN p.l gr s i := by rw [hstep, hu]; cases bestN p.l gr s i <;> rfl
              have HB2 := Lib.hid hb
              rw [h1] at X0'
              have X0 := Lib.hid X0'
              clear hstep X0' h1 hu hb
              go_upto_region 11 with (first | ((with_reducible refine Se.isL (o := ⟨some 20, _, _, _, _, _⟩) ?_); (refine Se.toL rfl (Se.ld (o := ⟨some 20, _, _, _, _, _⟩) hs rfl rfl (Cell.blk 0 rfl rfl) (by kernel_rfl) ?_))) | ((with_reducible refine Se.isL (o := ⟨some 26, _, _, _, _, _⟩) ?_); (refine Se.toL rfl (Se.ld (o := ⟨some 26, _, _, _, _, _⟩) hs rfl rfl (Cell.blk 0 rfl rfl) (by kernel_rfl) ?_))) | ((with_reducible refine Se.isL (o := ⟨some 29, _, _, _, _, _⟩) ?_); (refine Se.toL rfl (Se.ldw (o := ⟨some 29, _, _, _, _, _⟩) hs rfl rfl ((RP.out _ (by simp only [List.mem_cons, HM.out, or_true]))) ((by rw [XL.out]; kernel_rfl)) (by kernel_rfl) ?_))) | ((with_reducible refine Se.isL (o := ⟨some 9, _, _, _, _, _⟩) ?_); (refine Se.toL rfl (Se.al (o := ⟨some 9, _, _, _, _, _⟩) hs rfl (Z.out) ?_); clear hs; rintro w g9 - hs)) | ((with_reducible refine Se.isL (o := ⟨none, Op.store 70 _ _, _, _, _, _⟩) ?_); (refine Se.toL rfl (Se.sow 0 hs rfl rfl rfl rfl (XO.out) ((by rw [XL.out]; kernel_rfl)) ((by rw [XL.out, ZL.out])) ?_); clear hs; intro w hs; try simp only [List.set_cons_zero] at hs)))
              refine Ch.region' 25 (fun wx => Li.Blk wx g9 xs 70) (fun  | _ => false) (by kernel_rfl) (by decide +kernel) (hs.drew.hold (.blk g9 70 xs) List.mem_cons_self) ?_
              replace hs := hs.drew
              generalize w.drew = w at hs ⊢
              change Ch.CW _ _ _ _ _ [0, 1, 2, 3, 4, 5, 6, 7, 8, 9, 10, 11, 12, 13, 14, 15, 16, 17, 18, 19, 20, 21, 22, 23, 24] _ _
              iterate 1 (refine Ch.pure (v := ?_) (by rfl) (by rfl) (by rfl) (fun wx hS => ?_) ?_; rotate_left; (focus (go_simp; (first | done | with_reducible rfl))); (try simp only [Act.put, List.setIfInBounds_toArray, List.set_cons_zero, List.set_cons_succ]))
              refine Ch.pure (v := .bool false) (by rfl) (by rfl) (by rfl) (fun wx hS => Se.xl rfl rfl (by rw [hS.cell]; exact X0.out) (by kernel_rfl)) ?_
              (try simp only [Act.put, List.setIfInBounds_toArray, List.set_cons_zero, List.set_cons_succ])
              iterate 1 (refine Ch.pure (v := ?_) (by rfl) (by rfl) (by rfl) (fun wx hS => ?_) ?_; rotate_left; (focus (go_simp; (first | done | with_reducible rfl))); (try simp only [Act.put, List.setIfInBounds_toArray, List.set_cons_zero, List.set_cons_succ]))
              iterate 6 (refine Ch.skip (by rfl) (by rfl) ?_; (try simp only [Act.put, List.setIfInBounds_toArray, List.set_cons_zero, List.set_cons_succ]))
              iterate 2 (refine Ch.pure (v := ?_) (by rfl) (by rfl) (by rfl) (fun wx hS => ?_) ?_; rotate_left; (focus (go_simp; (first | done | with_reducible rfl))); (try simp only [Act.put, List.setIfInBounds_toArray, List.set_cons_zero, List.set_cons_succ]))
              iterate 13 (refine Ch.skip (by rfl) (by rfl) ?_; (try simp only [Act.put, List.setIfInBounds_toArray, List.set_cons_zero, List.set_cons_succ]))
              iterate 1 (refine Ch.pure (v := ?_) (by rfl) (by rfl) (by rfl) (fun wx hS => ?_) ?_; rotate_left; (focus (go_simp; (first | done | with_reducible rfl))); (try simp only [Act.put, List.setIfInBounds_toArray, List.set_cons_zero, List.set_cons_succ]))
              refine Ch.done ?_
              simp only [List.drop_succ_cons, List.drop_zero]
              go_wp2_with fail
              go_roundg (n - (i + 1))
              case measure => omega
              case rel => exact ⟨i + 1, rfl, by omega, (by rw [HB2.out]; try rfl), by go_num, hs.drop⟩
            · have hb : bestN p.l gr s (i + 1) = bestN p.l gr s i := by rw [hstep, hu]; cases bestN p.l gr s i <;> rfl
              have HB2 := Lib.hid hb
              rw [h1] at X0'
              have X0 := Lib.hid X0'
              clear hstep X0' h1 hu hb
              go_upto_region 11 with (first | ((with_reducible refine Se.isL (o := ⟨some 20, _, _, _, _, _⟩) ?_); (refine Se.toL rfl (Se.ld (o := ⟨some 20, _, _, _, _, _⟩) hs rfl rfl (Cell.blk 0 rfl rfl) (by kernel_rfl) ?_))) | ((with_reducible refine Se.isL (o := ⟨some 26, _, _, _, _, _⟩) ?_); (refine Se.toL rfl (Se.ld (o := ⟨some 26, _, _, _, _, _⟩) hs rfl rfl (Cell.blk 0 rfl rfl) (by kernel_rfl) ?_))) | ((with_reducible refine Se.isL (o := ⟨some 29, _, _, _, _, _⟩) ?_); (refine Se.toL rfl (Se.ldw (o := ⟨some 29, _, _, _, _, _⟩) hs rfl rfl ((RP.out _ (by simp only [List.mem_cons, HM.out, or_true]))) ((by rw [XL.out]; kernel_rfl)) (by kernel_rfl) ?_))) | ((with_reducible refine Se.isL (o := ⟨some 9, _, _, _, _, _⟩) ?_); (refine Se.toL rfl (Se.al (o := ⟨some 9, _, _, _, _, _⟩) hs rfl (Z.out) ?_); clear hs; rintro w g9 - hs)) | ((with_reducible refine Se.isL (o := ⟨none, Op.store 70 _ _, _, _, _, _⟩) ?_); (refine Se.toL rfl (Se.sow 0 hs rfl rfl rfl rfl (XO.out) ((by rw [XL.out]; kernel_rfl)) ((by rw [XL.out, ZL.out])) ?_); clear hs; intro w hs; try simp only [List.set_cons_zero] at hs)))
              refine Ch.region' 25 (fun wx => Li.Blk wx g9 xs 70) (fun  | _ => false) (by kernel_rfl) (by decide +kernel) (hs.drew.hold (.blk g9 70 xs) List.mem_cons_self) ?_
              replace hs := hs.drew
              generalize w.drew = w at hs ⊢
              change Ch.CW _ _ _ _ _ [0, 1, 2, 3, 4, 5, 6, 7, 8, 9, 10, 11, 12, 13, 14, 15, 16, 17, 18, 19, 20, 21, 22, 23, 24] _ _
              iterate 1 (refine Ch.pure (v := ?_) (by rfl) (by rfl) (by rfl) (fun wx hS => ?_) ?_; rotate_left; (focus (go_simp; (first | done | with_reducible rfl))); (try simp only [Act.put, List.setIfInBounds_toArray, List.set_cons_zero, List.set_cons_succ]))
              refine Ch.pure (v := .bool true) (by rfl) (by rfl) (by rfl) (fun wx hS => Se.xl rfl rfl (by rw [hS.cell]; exact X0.out) (by kernel_rfl)) ?_
              (try simp only [Act.put, List.setIfInBounds_toArray, List.set_cons_zero, List.set_cons_succ])
              iterate 4 (refine Ch.pure (v := ?_) (by rfl) (by rfl) (by rfl) (fun wx hS => ?_) ?_; rotate_left; (focus (go_simp; (first | done | with_reducible rfl))); (try simp only [Act.put, List.setIfInBounds_toArray, List.set_cons_zero, List.set_cons_succ]))
              refine Ch.pure (v := .int .i64 (stOf x gr)) (by rfl) (by rfl) (by rfl) (fun wx hS => Se.xl rfl rfl (by rw [hS.cell]; exact X2.out) (by kernel_rfl)) ?_
              (try simp only [Act.put, List.setIfInBounds_toArray, List.set_cons_zero, List.set_cons_succ])
              iterate 4 (refine Ch.pure (v := ?_) (by rfl) (by rfl) (by rfl) (fun wx hS => ?_) ?_; rotate_left; (focus (go_simp; (first | done | with_reducible rfl))); (try simp only [Act.put, List.setIfInBounds_toArray, List.set_cons_zero, List.set_cons_succ]))
              iterate 13 (refine Ch.skip (by rfl) (by rfl) ?_; (try simp only [Act.put, List.setIfInBounds_toArray, List.set_cons_zero, List.set_cons_succ]))
              iterate 1 (refine Ch.pure (v := ?_) (by rfl) (by rfl) (by rfl) (fun wx hS => ?_) ?_; rotate_left; (focus (go_simp; (first | done | with_reducible rfl))); (try simp only [Act.put, List.setIfInBounds_toArray, List.set_cons_zero, List.set_cons_succ]))
              refine Ch.done ?_
              simp only [List.drop_succ_cons, List.drop_zero]
              go_wp2_with fail
              go_roundg (n - (i + 1))
              case measure => omega
              case rel => exact ⟨i + 1, rfl, by omega, (by rw [HB2.out]; try rfl), by go_num, hs.drop⟩
            · rw [h1] at X0'
              have X0 := Lib.hid X0'
              rw [h2] at X2
              cases hbo : bestN p.l gr s i with
              | none =>
                have HB2 := Lib.hid (show bestN p.l gr s (i + 1) = some i by rw [hstep, hbo, hu]; rfl)
                clear hstep X0' h1 h2 hu hbo hbb
                simp only [bI]
                go_upto_region 11 with (first | ((with_reducible refine Se.isL (o := ⟨some 20, _, _, _, _, _⟩) ?_); (refine Se.toL rfl (Se.ld (o := ⟨some 20, _, _, _, _, _⟩) hs rfl rfl (Cell.blk 0 rfl rfl) (by kernel_rfl) ?_))) | ((with_reducible refine Se.isL (o := ⟨some 26, _, _, _, _, _⟩) ?_); (refine Se.toL rfl (Se.ld (o := ⟨some 26, _, _, _, _, _⟩) hs rfl rfl (Cell.blk 0 rfl rfl) (by kernel_rfl) ?_))) | ((with_reducible refine Se.isL (o := ⟨some 29, _, _, _, _, _⟩) ?_); (refine Se.toL rfl (Se.ldw (o := ⟨some 29, _, _, _, _, _⟩) hs rfl rfl ((RP.out _ (by simp only [List.mem_cons, HM.out, or_true]))) ((by rw [XL.out]; kernel_rfl)) (by kernel_rfl) ?_))) | ((with_reducible refine Se.isL (o := ⟨some 9, _, _, _, _, _⟩) ?_); (refine Se.toL rfl (Se.al (o := ⟨some 9, _, _, _, _, _⟩) hs rfl (Z.out) ?_); clear hs; rintro w g9 - hs)) | ((with_reducible refine Se.isL (o := ⟨none, Op.store 70 _ _, _, _, _, _⟩) ?_); (refine Se.toL rfl (Se.sow 0 hs rfl rfl rfl rfl (XO.out) ((by rw [XL.out]; kernel_rfl)) ((by rw [XL.out, ZL.out])) ?_); clear hs; intro w hs; try simp only [List.set_cons_zero] at hs)))
                refine Ch.region' 25 (fun wx => Li.Blk wx g9 xs 70) (fun  | _ => false) (by kernel_rfl) (by decide +kernel) (hs.drew.hold (.blk g9 70 xs) List.mem_cons_self) ?_
                replace hs := hs.drew
                generalize w.drew = w at hs ⊢
                change Ch.CW _ _ _ _ _ [0, 1, 2, 3, 4, 5, 6, 7, 8, 9, 10, 11, 12, 13, 14, 15, 16, 17, 18, 19, 20, 21, 22, 23, 24] _ _
                iterate 1 (refine Ch.pure (v := ?_) (by rfl) (by rfl) (by rfl) (fun wx hS => ?_) ?_; rotate_left; (focus (go_simp; (first | done | with_reducible rfl))); (try simp only [Act.put, List.setIfInBounds_toArray, List.set_cons_zero, List.set_cons_succ]))
                refine Ch.pure (v := .bool true) (by rfl) (by rfl) (by rfl) (fun wx hS => Se.xl rfl rfl (by rw [hS.cell]; exact X0.out) (by kernel_rfl)) ?_
                (try simp only [Act.put, List.setIfInBounds_toArray, List.set_cons_zero, List.set_cons_succ])
                iterate 4 (refine Ch.pure (v := ?_) (by rfl) (by rfl) (by rfl) (fun wx hS => ?_) ?_; rotate_left; (focus (go_simp; (first | done | with_reducible rfl))); (try simp only [Act.put, List.setIfInBounds_toArray, List.set_cons_zero, List.set_cons_succ]))
                refine Ch.pure (v := .int .i64 s) (by rfl) (by rfl) (by rfl) (fun wx hS => Se.xl rfl rfl (by rw [hS.cell]; exact X2.out) (by kernel_rfl)) ?_
                (try simp only [Act.put, List.setIfInBounds_toArray, List.set_cons_zero, List.set_cons_succ])
                iterate 7 (refine Ch.pure (v := ?_) (by rfl) (by rfl) (by rfl) (fun wx hS => ?_) ?_; rotate_left; (focus (go_simp; (first | done | with_reducible rfl))); (try simp only [Act.put, List.setIfInBounds_toArray, List.set_cons_zero, List.set_cons_succ]))
                iterate 9 (refine Ch.skip (by rfl) (by rfl) ?_; (try simp only [Act.put, List.setIfInBounds_toArray, List.set_cons_zero, List.set_cons_succ]))
                iterate 2 (refine Ch.pure (v := ?_) (by rfl) (by rfl) (by rfl) (fun wx hS => ?_) ?_; rotate_left; (focus (go_simp; (first | done | with_reducible rfl))); (try simp only [Act.put, List.setIfInBounds_toArray, List.set_cons_zero, List.set_cons_succ]))
                refine Ch.done ?_
                simp only [List.drop_succ_cons, List.drop_zero]
                go_wp2_with fail
                go_roundg (n - (i + 1))
                case measure => omega
                case rel => exact ⟨i + 1, rfl, by omega, (by rw [HB2.out]; try rfl), by go_num, hs.drop⟩
              | some j =>
                have hj : j < n := by (try rw [hbo] at hbb); simp only [bI] at hbb; omega
                have hj' : (j : Int) < (n : Int) := by omega
                have hjl : j < p.l.length := by have := HN.out; omega
                obtain ⟨y, hy⟩ : ∃ y, y = (p.l.getD j dead).b := ⟨_, rfl⟩
                have RJ := Lib.hid (show ∀ L : List At, At.rd (some ⟨g, off, none⟩) (cells p.l) ∈ L → Cell L g (off + j * 131 + 1) (.int .i64 y) from fun _ h => hy ▸ (r_pathN HP.out hjl (Reads.rdm h)).cell 1 rfl)
                (try rw [hbo] at hstep)
                dsimp only at hstep
                rw [hu, ← hy, Bool.true_and] at hstep
                have hbb1 := okN HP.out hjl
                clear hjl hy
                by_cases hlt2 : x.b < y
                · have HB2 := Lib.hid (show bestN p.l gr s (i + 1) = some i by rw [hstep, if_pos (by simpa using hlt2)])
                  clear hstep X0' h1 h2 hu hbo hbb hbb1
                  simp only [bI]
                  go_upto_region 11 with (first | ((with_reducible refine Se.isL (o := ⟨some 20, _, _, _, _, _⟩) ?_); (refine Se.toL rfl (Se.ld (o := ⟨some 20, _, _, _, _, _⟩) hs rfl rfl (Cell.blk 0 rfl rfl) (by kernel_rfl) ?_))) | ((with_reducible refine Se.isL (o := ⟨some 26, _, _, _, _, _⟩) ?_); (refine Se.toL rfl (Se.ld (o := ⟨some 26, _, _, _, _, _⟩) hs rfl rfl (Cell.blk 0 rfl rfl) (by kernel_rfl) ?_))) | ((with_reducible refine Se.isL (o := ⟨some 29, _, _, _, _, _⟩) ?_); (refine Se.toL rfl (Se.ldw (o := ⟨some 29, _, _, _, _, _⟩) hs rfl rfl ((RP.out _ (by simp only [List.mem_cons, HM.out, or_true]))) ((by rw [XL.out]; kernel_rfl)) (by kernel_rfl) ?_))) | ((with_reducible refine Se.isL (o := ⟨some 9, _, _, _, _, _⟩) ?_); (refine Se.toL rfl (Se.al (o := ⟨some 9, _, _, _, _, _⟩) hs rfl (Z.out) ?_); clear hs; rintro w g9 - hs)) | ((with_reducible refine Se.isL (o := ⟨none, Op.store 70 _ _, _, _, _, _⟩) ?_); (refine Se.toL rfl (Se.sow 0 hs rfl rfl rfl rfl (XO.out) ((by rw [XL.out]; kernel_rfl)) ((by rw [XL.out, ZL.out])) ?_); clear hs; intro w hs; try simp only [List.set_cons_zero] at hs)))
                  refine Ch.region' 25 (fun wx => Li.Blk wx g9 xs 70 ∧ Li.Blk wx g2 [.int .i64 tr, .slice (some ⟨g, off, none⟩) n c] 59 ∧ wx.cell? ⟨g, off + j * 131 + 1, none⟩ = some (.int .i64 y)) (fun  | _ => false) (by kernel_rfl) (by decide +kernel) (⟨hs.drew.hold (.blk g9 70 xs) List.mem_cons_self, hs.drew.hold (.blk g2 59 _) (List.mem_cons_of_mem _ List.mem_cons_self), RJ.out _ (by simp only [List.mem_cons, HM.out, or_true]) _ hs.drew.hold⟩) ?_
                  replace hs := hs.drew
                  generalize w.drew = w at hs ⊢
                  change Ch.CW _ _ _ _ _ [0, 1, 2, 3, 4, 5, 6, 7, 8, 9, 10, 11, 12, 13, 14, 15, 16, 17, 18, 19, 20, 21, 22, 23, 24] _ _
                  iterate 1 (refine Ch.pure (v := ?_) (by rfl) (by rfl) (by rfl) (fun wx hS => ?_) ?_; rotate_left; (focus (go_simp; (first | done | with_reducible rfl))); (try simp only [Act.put, List.setIfInBounds_toArray, List.set_cons_zero, List.set_cons_succ]))
                  refine Ch.pure (v := .bool true) (by rfl) (by rfl) (by rfl) (fun wx hS => Se.xl rfl rfl (by rw [hS.1.cell]; exact X0.out) (by kernel_rfl)) ?_
                  (try simp only [Act.put, List.setIfInBounds_toArray, List.set_cons_zero, List.set_cons_succ])
                  iterate 4 (refine Ch.pure (v := ?_) (by rfl) (by rfl) (by rfl) (fun wx hS => ?_) ?_; rotate_left; (focus (go_simp; (first | done | with_reducible rfl))); (try simp only [Act.put, List.setIfInBounds_toArray, List.set_cons_zero, List.set_cons_succ]))
                  refine Ch.pure (v := .int .i64 s) (by rfl) (by rfl) (by rfl) (fun wx hS => Se.xl rfl rfl (by rw [hS.1.cell]; exact X2.out) (by kernel_rfl)) ?_
                  (try simp only [Act.put, List.setIfInBounds_toArray, List.set_cons_zero, List.set_cons_succ])
                  iterate 8 (refine Ch.pure (v := ?_) (by rfl) (by rfl) (by rfl) (fun wx hS => ?_) ?_; rotate_left; (focus (go_simp; (first | done | with_reducible rfl))); (try simp only [Act.put, List.setIfInBounds_toArray, List.set_cons_zero, List.set_cons_succ]))
                  refine Ch.pure (v := .int .i64 x.b) (by rfl) (by rfl) (by rfl) (fun wx hS => Se.xl rfl rfl (by rw [hS.1.cell]; exact X1.out) (by kernel_rfl)) ?_
                  (try simp only [Act.put, List.setIfInBounds_toArray, List.set_cons_zero, List.set_cons_succ])
                  iterate 1 (refine Ch.pure (v := ?_) (by rfl) (by rfl) (by rfl) (fun wx hS => ?_) ?_; rotate_left; (focus (go_simp; (first | done | with_reducible rfl))); (try simp only [Act.put, List.setIfInBounds_toArray, List.set_cons_zero, List.set_cons_succ]))
                  refine Ch.pure (v := .slice (some ⟨g, off, none⟩) n c) (by rfl) (by rfl) (by rfl) (fun wx hS => Se.xl rfl rfl (by rw [hS.2.1.cell]; rfl) (by kernel_rfl)) ?_
                  (try simp only [Act.put, List.setIfInBounds_toArray, List.set_cons_zero, List.set_cons_succ])
                  iterate 3 (refine Ch.pure (v := ?_) (by rfl) (by rfl) (by rfl) (fun wx hS => ?_) ?_; rotate_left; (focus (go_simp; (first | done | with_reducible rfl))); (try simp only [Act.put, List.setIfInBounds_toArray, List.set_cons_zero, List.set_cons_succ]))
                  refine Ch.pure (v := .int .i64 y) (by rfl) (by rfl) (by rfl) (fun wx hS => Se.xl rfl rfl hS.2.2 (by kernel_rfl)) ?_
                  (try simp only [Act.put, List.setIfInBounds_toArray, List.set_cons_zero, List.set_cons_succ])
                  iterate 3 (refine Ch.pure (v := ?_) (by rfl) (by rfl) (by rfl) (fun wx hS => ?_) ?_; rotate_left; (focus (go_simp; (first | done | with_reducible rfl))); (try simp only [Act.put, List.setIfInBounds_toArray, List.set_cons_zero, List.set_cons_succ]))
                  refine Ch.done ?_
                  simp only [List.drop_succ_cons, List.drop_zero]
                  go_wp2_with fail
                  go_roundg (n - (i + 1))
                  case measure => omega
                  case rel => exact ⟨i + 1, rfl, by omega, (by rw [HB2.out]; try rfl), by go_num, hs.drop⟩
                · have HB2 := Lib.hid (show bestN p.l gr s (i + 1) = some j by rw [hstep, if_neg (by simpa using hlt2)])
                  have hlt3 : decide (x.b < y) = false := by simpa using hlt2
                  clear hstep X0' h1 h2 hu hbo hbb hbb1 hlt2
                  simp only [bI]
                  go_upto_region 11 with (first | ((with_reducible refine Se.isL (o := ⟨some 20, _, _, _, _, _⟩) ?_); (refine Se.toL rfl (Se.ld (o := ⟨some 20, _, _, _, _, _⟩) hs rfl rfl (Cell.blk 0 rfl rfl) (by kernel_rfl) ?_))) | ((with_reducible refine Se.isL (o := ⟨some 26, _, _, _, _, _⟩) ?_); (refine Se.toL rfl (Se.ld (o := ⟨some 26, _, _, _, _, _⟩) hs rfl rfl (Cell.blk 0 rfl rfl) (by kernel_rfl) ?_))) | ((with_reducible refine Se.isL (o := ⟨some 29, _, _, _, _, _⟩) ?_); (refine Se.toL rfl (Se.ldw (o := ⟨some 29, _, _, _, _, _⟩) hs rfl rfl ((RP.out _ (by simp only [List.mem_cons, HM.out, or_true]))) ((by rw [XL.out]; kernel_rfl)) (by kernel_rfl) ?_))) | ((with_reducible refine Se.isL (o := ⟨some 9, _, _, _, _, _⟩) ?_); (refine Se.toL rfl (Se.al (o := ⟨some 9, _, _, _, _, _⟩) hs rfl (Z.out) ?_); clear hs; rintro w g9 - hs)) | ((with_reducible refine Se.isL (o := ⟨none, Op.store 70 _ _, _, _, _, _⟩) ?_); (refine Se.toL rfl (Se.sow 0 hs rfl rfl rfl rfl (XO.out) ((by rw [XL.out]; kernel_rfl)) ((by rw [XL.out, ZL.out])) ?_); clear hs; intro w hs; try simp only [List.set_cons_zero] at hs)))
                  refine Ch.region' 25 (fun wx => Li.Blk wx g9 xs 70 ∧ Li.Blk wx g2 [.int .i64 tr, .slice (some ⟨g, off, none⟩) n c] 59 ∧ wx.cell? ⟨g, off + j * 131 + 1, none⟩ = some (.int .i64 y)) (fun  | _ => false) (by kernel_rfl) (by decide +kernel) (⟨hs.drew.hold (.blk g9 70 xs) List.mem_cons_self, hs.drew.hold (.blk g2 59 _) (List.mem_cons_of_mem _ List.mem_cons_self), RJ.out _ (by simp only [List.mem_cons, HM.out, or_true]) _ hs.drew.hold⟩) ?_
                  replace hs := hs.drew
                  generalize w.drew = w at hs ⊢
                  change Ch.CW _ _ _ _ _ [0, 1, 2, 3, 4, 5, 6, 7, 8, 9, 10, 11, 12, 13, 14, 15, 16, 17, 18, 19, 20, 21, 22, 23, 24] _ _
                  iterate 1 (refine Ch.pure (v := ?_) (by rfl) (by rfl) (by rfl) (fun wx hS => ?_) ?_; rotate_left; (focus (go_simp; (first | done | with_reducible rfl))); (try simp only [Act.put, List.setIfInBounds_toArray, List.set_cons_zero, List.set_cons_succ]))
                  refine Ch.pure (v := .bool true) (by rfl) (by rfl) (by rfl) (fun wx hS => Se.xl rfl rfl (by rw [hS.1.cell]; exact X0.out) (by kernel_rfl)) ?_
                  (try simp only [Act.put, List.setIfInBounds_toArray, List.set_cons_zero, List.set_cons_succ])
                  iterate 4 (refine Ch.pure (v := ?_) (by rfl) (by rfl) (by rfl) (fun wx hS => ?_) ?_; rotate_left; (focus (go_simp; (first | done | with_reducible rfl))); (try simp only [Act.put, List.setIfInBounds_toArray, List.set_cons_zero, List.set_cons_succ]))
                  refine Ch.pure (v := .int .i64 s) (by rfl) (by rfl) (by rfl) (fun wx hS => Se.xl rfl rfl (by rw [hS.1.cell]; exact X2.out) (by kernel_rfl)) ?_
                  (try simp only [Act.put, List.setIfInBounds_toArray, List.set_cons_zero, List.set_cons_succ])
                  iterate 8 (refine Ch.pure (v := ?_) (by rfl) (by rfl) (by rfl) (fun wx hS => ?_) ?_; rotate_left; (focus (go_simp; (first | done | with_reducible rfl))); (try simp only [Act.put, List.setIfInBounds_toArray, List.set_cons_zero, List.set_cons_succ]))
                  refine Ch.pure (v := .int .i64 x.b) (by rfl) (by rfl) (by rfl) (fun wx hS => Se.xl rfl rfl (by rw [hS.1.cell]; exact X1.out) (by kernel_rfl)) ?_
                  (try simp only [Act.put, List.setIfInBounds_toArray, List.set_cons_zero, List.set_cons_succ])
                  iterate 1 (refine Ch.pure (v := ?_) (by rfl) (by rfl) (by rfl) (fun wx hS => ?_) ?_; rotate_left; (focus (go_simp; (first | done | with_reducible rfl))); (try simp only [Act.put, List.setIfInBounds_toArray, List.set_cons_zero, List.set_cons_succ]))
                  refine Ch.pure (v := .slice (some ⟨g, off, none⟩) n c) (by rfl) (by rfl) (by rfl) (fun wx hS => Se.xl rfl rfl (by rw [hS.2.1.cell]; rfl) (by kernel_rfl)) ?_
                  (try simp only [Act.put, List.setIfInBounds_toArray, List.set_cons_zero, List.set_cons_succ])
                  iterate 3 (refine Ch.pure (v := ?_) (by rfl) (by rfl) (by rfl) (fun wx hS => ?_) ?_; rotate_left; (focus (go_simp; (first | done | with_reducible rfl))); (try simp only [Act.put, List.setIfInBounds_toArray, List.set_cons_zero, List.set_cons_succ]))
                  refine Ch.pure (v := .int .i64 y) (by rfl) (by rfl) (by rfl) (fun wx hS => Se.xl rfl rfl hS.2.2 (by kernel_rfl)) ?_
                  (try simp only [Act.put, List.setIfInBounds_toArray, List.set_cons_zero, List.set_cons_succ])
                  iterate 3 (refine Ch.pure (v := ?_) (by rfl) (by rfl) (by rfl) (fun wx hS => ?_) ?_; rotate_left; (focus (go_simp; (first | done | with_reducible rfl))); (try simp only [Act.put, List.setIfInBounds_toArray, List.set_cons_zero, List.set_cons_succ]))
                  refine Ch.done ?_
                  simp only [List.drop_succ_cons, List.drop_zero]
                  go_wp2_with fail
                  go_roundg (n - (i + 1))
                  case measure => omega
                  case rel => exact ⟨i + 1, rfl, by omega, (by rw [HB2.out]; try rfl), by go_num, hs.drop⟩
          · obtain rfl : i = n := by omega
            clear hi hlt
            cases hbo : bestN p.l gr s i with
            | none =>
              have HB2 := Lib.hid hbo
              clear hbb hbo
              simp only [bI]
              go_wp2_with (first | ((with_reducible refine Se.isL (o := ⟨some 20, _, _, _, _, _⟩) ?_); (refine Se.toL rfl (Se.ld (o := ⟨some 20, _, _, _, _, _⟩) hs rfl rfl (Cell.blk 0 rfl rfl) (by kernel_rfl) ?_))))
              go_roundg (3 - (s + 1)).toNat
              case measure => omega
              case rel =>
                refine ⟨s + 1, rfl, by omega, by omega, by go_num, Lib.hid (fun s' h1 h2 => ?_), hs⟩
                by_cases h : s' < s
                · exact HB.out s' h1 h
                · obtain rfl : s' = s := by omega
                  exact HB2.out
            | some j =>
              have hf := Lib.hid (show pick p gr = ((j : Int), 0) by
                have hn := HN.out
                have : s = 1 ∨ s = 2 := by omega
                rcases this with rfl | rfl
                · exact pick_1 HG.out (by rw [← hn]; exact hbo)
                · exact pick_2 HG.out (by rw [← hn]; exact HB.out 1 (by omega) (by omega)) (by rw [← hn]; exact hbo))
              have hj0 : (0 : Int) ≤ (j : Int) := by omega
              clear hbb hbo
              simp only [bI]
              go_wp2_with (first | ((with_reducible refine Se.isL (o := ⟨some 20, _, _, _, _, _⟩) ?_); (refine Se.toL rfl (Se.ld (o := ⟨some 20, _, _, _, _, _⟩) hs rfl rfl (Cell.blk 0 rfl rfl) (by kernel_rfl) ?_))))
              go_ret2
              rw [hf.out]
              exact ⟨rfl, hs.drop⟩
      · obtain rfl : s = 3 := by omega
        have hf := Lib.hid (show pick p gr = if anyN p.l gr 15 n then (0, 11) else (0, 9) by
          have hn := HN.out
          rw [hn]
          exact pick_3 HG.out (by rw [← hn]; exact HB.out 1 (by omega) (by omega)) (by rw [← hn]; exact HB.out 2 (by omega) (by omega)))
        clear hs1 hs2 hs3 HB
        go_wp2_with fail
        go_loopg [10] n (fun gh s10 wr => ∃ i : Nat, gh = n - i ∧ i ≤ n ∧ s10 = .int .i64 i ∧ Hid (anyN p.l gr 15 i = false) ∧ St w0 X (.blk g2 59 [.int .i64 tr, .slice (some ⟨g, off, none⟩) n c] :: L) wr)
        case atStart => exact ⟨0, rfl, by omega, rfl, Lib.hid rfl, hs⟩
        case round =>
          clear hs
          rename World => w
          obtain ⟨i, rfl, hi, rfl, HA, hs⟩ := hrel
          by_cases hlt : i < n
          · have hlt' : (i : Int) < (n : Int) := by omega
            have hil : i < p.l.length := by have := HN.out; omega
            have hok := okN HP.out hil
            obtain ⟨x, hx⟩ : ∃ x, x = p.l.getD i dead := ⟨_, rfl⟩
            rw [← hx] at hok
            obtain ⟨xs, hxs⟩ : ∃ xs, xs = cS x := ⟨_, rfl⟩
            have X2 := (show xs[2 + gr.toNat]? = some (.int .i64 (stOf x gr)) by rw [hxs]; exact cS_st hok HG.out)
            have RP := Lib.hid (show ∀ L : List At, At.rd (some ⟨g, off, none⟩) (cells p.l) ∈ L → Reads L (some ⟨g, off + i * 131, none⟩) xs from fun _ h => hxs ▸ hx ▸ r_pathN HP.out hil (Reads.rdm h))
            have X0' : xs[0]? = some (.bool x.on) := by rw [hxs]; rfl
            have hany : anyN p.l gr 15 (i + 1) = use gr 15 x := by
              show (anyN p.l gr 15 i || use gr 15 (p.l.getD i dead)) = _
              rw [HA.out, ← hx, Bool.false_or]
            clear hxs hx hok hil
            have hmem : ∀ w', St w0 X (.blk g2 59 [.int .i64 tr, .slice (some ⟨g, off, none⟩) n c] :: L) w' → Reads (.blk g2 59 [.int .i64 tr, .slice (some ⟨g, off, none⟩) n c] :: L) (some ⟨g, off + i * 131, none⟩) xs := fun _ _ => RP.out _ (by simp only [List.mem_cons, HM.out, or_true])
            have hmem := Lib.hid (hmem w hs)
            rcases use_cases x gr 15 with ⟨h1, hu⟩ | ⟨h1, h2, hu⟩ | ⟨h1, h2, hu⟩
            · have HA2 := Lib.hid (hany.trans hu)
              have C0 := Lib.hid ((hmem.out).cell 0 (h1 ▸ X0'))
              clear hany hu X0' h1 X2
              go_wp2_with (first | ((with_reducible refine Se.isL (o := ⟨some 61, _, _, _, _, _⟩) ?_); (refine Se.toL rfl (Se.ld (o := ⟨some 61, _, _, _, _, _⟩) hs rfl rfl (Cell.blk 0 rfl rfl) (by kernel_rfl) ?_))) | ((with_reducible refine Se.isL (o := ⟨some 67, _, _, _, _, _⟩) ?_); (refine Se.toL rfl (Se.ld (o := ⟨some 67, _, _, _, _, _⟩) hs rfl rfl (Cell.blk 0 rfl rfl) (by kernel_rfl) ?_))) | ((with_reducible refine Se.isL (o := ⟨some 71, _, _, _, _, _⟩) ?_); (refine Se.toL rfl (Se.ld (o := ⟨some 71, _, _, _, _, _⟩) hs rfl rfl (C0.out) (by kernel_rfl) ?_))))
              go_roundg (n - (i + 1))
              case measure => omega
              case rel => exact ⟨i + 1, rfl, by omega, by go_num, HA2, hs⟩
            · have HA2 := Lib.hid (hany.trans hu)
              have C0 := Lib.hid ((hmem.out).cell 0 (h1 ▸ X0'))
              have C2 := Lib.hid (show Cell _ g (off + i * 131 + 2 + gr.toNat) _ by rw [Nat.add_assoc (off + i * 131)]; exact (hmem.out).cell (2 + gr.toNat) X2)
              clear hany hu X0' h1 X2
              go_wp2_with (first | ((with_reducible refine Se.isL (o := ⟨some 61, _, _, _, _, _⟩) ?_); (refine Se.toL rfl (Se.ld (o := ⟨some 61, _, _, _, _, _⟩) hs rfl rfl (Cell.blk 0 rfl rfl) (by kernel_rfl) ?_))) | ((with_reducible refine Se.isL (o := ⟨some 67, _, _, _, _, _⟩) ?_); (refine Se.toL rfl (Se.ld (o := ⟨some 67, _, _, _, _, _⟩) hs rfl rfl (Cell.blk 0 rfl rfl) (by kernel_rfl) ?_))) | ((with_reducible refine Se.isL (o := ⟨some 71, _, _, _, _, _⟩) ?_); (refine Se.toL rfl (Se.ld (o := ⟨some 71, _, _, _, _, _⟩) hs rfl rfl (C0.out) (by kernel_rfl) ?_))) | ((with_reducible refine Se.isL (o := ⟨some 74, _, _, _, _, _⟩) ?_); (refine Se.toL rfl (Se.ld (o := ⟨some 74, _, _, _, _, _⟩) hs rfl rfl (Cell.blk 0 rfl rfl) (by kernel_rfl) ?_))) | ((with_reducible refine Se.isL (o := ⟨some 80, _, _, _, _, _⟩) ?_); (refine Se.toL rfl (Se.ld (o := ⟨some 80, _, _, _, _, _⟩) hs rfl rfl (C2.out) (by kernel_rfl) ?_))))
              go_roundg (n - (i + 1))
              case measure => omega
              case rel => exact ⟨i + 1, rfl, by omega, by go_num, HA2, hs⟩
            · have hall : anyN p.l gr 15 n = true := anyN_mono p.l gr 15 (hany.trans hu) hlt
              rw [hall, if_pos rfl] at hf
              rw [h2] at X2
              have C0 := Lib.hid ((hmem.out).cell 0 (h1 ▸ X0'))
              have C2 := Lib.hid (show Cell _ g (off + i * 131 + 2 + gr.toNat) _ by rw [Nat.add_assoc (off + i * 131)]; exact (hmem.out).cell (2 + gr.toNat) X2)
              clear hany hu X0' h1 X2 h2 hall
              go_wp2_with (first | ((with_reducible refine Se.isL (o := ⟨some 61, _, _, _, _, _⟩) ?_); (refine Se.toL rfl (Se.ld (o := ⟨some 61, _, _, _, _, _⟩) hs rfl rfl (Cell.blk 0 rfl rfl) (by kernel_rfl) ?_))) | ((with_reducible refine Se.isL (o := ⟨some 67, _, _, _, _, _⟩) ?_); (refine Se.toL rfl (Se.ld (o := ⟨some 67, _, _, _, _, _⟩) hs rfl rfl (Cell.blk 0 rfl rfl) (by kernel_rfl) ?_))) | ((with_reducible refine Se.isL (o := ⟨some 71, _, _, _, _, _⟩) ?_); (refine Se.toL rfl (Se.ld (o := ⟨some 71, _, _, _, _, _⟩) hs rfl rfl (C0.out) (by kernel_rfl) ?_))) | ((with_reducible refine Se.isL (o := ⟨some 74, _, _, _, _, _⟩) ?_); (refine Se.toL rfl (Se.ld (o := ⟨some 74, _, _, _, _, _⟩) hs rfl rfl (Cell.blk 0 rfl rfl) (by kernel_rfl) ?_))) | ((with_reducible refine Se.isL (o := ⟨some 80, _, _, _, _, _⟩) ?_); (refine Se.toL rfl (Se.ld (o := ⟨some 80, _, _, _, _, _⟩) hs rfl rfl (C2.out) (by kernel_rfl) ?_))))
              go_ret2
              rw [hf.out]
              exact ⟨rfl, hs.drop⟩
          · obtain rfl : i = n := by omega
            rw [HA.out, if_neg (by simp)] at hf
            go_wp2_with (first | ((with_reducible refine Se.isL (o := ⟨some 61, _, _, _, _, _⟩) ?_); (refine Se.toL rfl (Se.ld (o := ⟨some 61, _, _, _, _, _⟩) hs rfl rfl (Cell.blk 0 rfl rfl) (by kernel_rfl) ?_))))
            go_ret2
            rw [hf.out]
            exact ⟨rfl, hs.drop⟩
end Pa
end Go.Proofs.Ytplhelhijjmlaaa

/- Layer 45: the reference's SetState, State, Connect, Submit, Done. -/
import Derived.Test.YtplhelhijjmlaaaPathRef
namespace Go.Proofs.Ytplhelhijjmlaaa
open Go Go.RowKit
namespace Pa
open Se (St At Reads Cell)
variable {w0 w : World} {X : List Nat} {L : List At} {A : Option Addr} {c : Nat} {p : PP}
theorem r_path (hp : OkP p) {i : Int} (hi : rng p i = 0) {g off : Nat} (h : Reads L (some ⟨g, off, none⟩) (cells p.l)) : Reads L (some ⟨g, off + i.toNat * 131, none⟩) (cS (get p i)) := by
  have h2 := (h.at (i.toNat * 131)).take 131
  have e : ((cells p.l).drop (i.toNat * 131)).take 131 = cS (get p i) := by
    apply List.ext_getElem?
    intro j
    have hl := cS_length (hp.get hi)
    by_cases hj : j < 131
    · rw [List.getElem?_take_of_lt hj, List.getElem?_drop, cells_get hp hi hj]
    · rw [List.getElem?_eq_none (by simp; omega), List.getElem?_eq_none (by omega)]
  rwa [e] at h2
theorem r_st (hp : OkP p) {i : Int} (hi : rng p i = 0) {g off : Nat} (h : Reads L (some ⟨g, off, none⟩) (cells p.l)) {gr : Int} (hg : grp gr = true) : Cell L g (off + i.toNat * 131 + 2 + gr.toNat) (.int .i64 (stOf (get p i) gr)) := by
  have h2 : 1 ≤ gr ∧ gr ≤ 128 := by simpa [grp] using hg
  have hl := (hp.get hi).2.2
  rw [Nat.add_assoc]
  refine (r_path hp hi h).cell (2 + gr.toNat) ?_
  rw [Nat.add_comm 2]
  simp only [cS, List.getElem?_cons_succ, List.getElem?_map, stOf, List.getD_eq_getElem?_getD]
  rw [List.getElem?_eq_getElem (by omega)]; simp
theorem cS_set (x : PS) (_hx : okS x) {gr : Int} (s : Int) : (cS x).set (2 + gr.toNat) (.int .i64 s) = cS { x with st := x.st.set gr.toNat s } := by
  rw [Nat.add_comm 2]; simp [cS, List.map_set]
theorem zRL : ∃ l, (Try.prog.info? 70).bind (fun i => i.zero.map (·.cells.toList)) = some l ∧ l.length = 131 := by
  obtain ⟨z, h1, h2⟩ := iRP
  cases hi : Try.prog.info? 70 with
  | none => simp [hi] at h1
  | some i =>
    simp [hi] at h1
    exact ⟨z.cells.toList, by simp [h1.1], by simpa using h2⟩
theorem rd_some (hs : St w0 X L w) (hm : At.rd A (cells p.l) ∈ L) (hp : OkP p) : ∃ g off, A = some ⟨g, off, none⟩ := by
  obtain ⟨g, off, h, _⟩ := Li.Rd.cells (hs.hold _ hm) (fun h => by
    have := cells_len hp
    rw [h] at this
    have := hp.n1
    simp at *; omega)
  exact ⟨g, off, h⟩
theorem rset_st' (hs : St w0 X L w) (hm : At.rd A (cells p.l) ∈ L) (hp : OkP p) (i : Int) (hi : rng p i = 0) (x : PS) (hx : okS x) {xs : List Value} (he : cS x = xs) :
    Calls Try.prog 59 #[rv p A c, .int .i64 i, .agg xs.toArray] w fun e w' => ∃ A' c', e = .returned (rv (put p i x) A' c') ∧ St w0 X (.rd A' (cells (put p i x).l) :: L) w' := he ▸ rset_st hs hm hp i hi x hx
theorem rgroup_st' (hs : St w0 X L w) (g : Int) {b : Bool} (hb : grp g = b) :
    Calls Try.prog 57 #[.int .i64 g] w fun e w' => e = .returned (.bool b) ∧ St w0 X L w' := hb ▸ rgroup_st hs g
theorem wrong_st' (hs : St w0 X L w) (i : Int) {y : Int} (hy : rng p i = y) :
    Calls Try.prog 58 #[rv p A c, .int .i64 i] w fun e w' => e = .returned (.int .i64 y) ∧ St w0 X L w' := hy ▸ wrong_st hs i
set_option maxRecDepth 100000 in
set_option maxHeartbeats 4000000 in
theorem rSetState_st (hs : St w0 X L w) (hm : At.rd A (cells p.l) ∈ L) (hp : OkP p) (i gr s : Int) :
    Calls Try.prog 45 #[rv p A c, .int .i64 i, .int .i64 gr, .int .i64 s] w fun e w' => ∃ A' c', e = .returned (.tuple #[rv (setState p i gr s).1 A' c', .int .i64 (setState p i gr s).2]) ∧ St w0 X (.rd A' (cells (setState p i gr s).1.l) :: L) w' := by
  have HP := Lib.hid hp
  obtain ⟨g, off, rfl⟩ := rd_some hs hm hp
  have HM := Lib.hid hm
  clear hm hp
  obtain ⟨z, hz, hz2⟩ := zRL
  have Z := Lib.hid hz
  have ZL := Lib.hid hz2
  clear hz hz2
  have key : (at' p i (grp gr && sok s) = 2 ∧ (grp gr = false ∨ (grp gr = true ∧ (s != 15) = true ∧ s < 1) ∨ (grp gr = true ∧ (s != 15) = true ∧ decide (s < 1) = false ∧ 4 < s))) ∨ (grp gr = true ∧ at' p i (grp gr && sok s) = rng p i ∧ (s = 15 ∨ ((s != 15) = true ∧ decide (s < 1) = false ∧ decide (4 < s) = false))) := by
    cases grp gr
    · simp [at']
    · by_cases h15 : s = 15
      · simp [at', h15, sok]
      · have : (s != 15) = true := by simpa using h15
        by_cases h1 : s < 1
        · left; simp only [decide_eq_false_iff_not]
          exact ⟨by unfold at' sok; simp; omega, .inr (.inl ⟨trivial, this, h1⟩)⟩
        · by_cases h4 : 4 < s
          · left; simp only [decide_eq_false_iff_not]
            exact ⟨by unfold at' sok; simp; omega, .inr (.inr ⟨trivial, this, h1, h4⟩)⟩
          · right; simp only [decide_eq_false_iff_not]
            refine ⟨trivial, ?_, .inr ⟨this, h1, h4⟩⟩
            have : sok s = true := by unfold sok; simp; omega
            simp [at', this]
  rcases key with ⟨h0, hk⟩ | ⟨hg, h0, hk⟩
  · have hf := Lib.hid (show setState p i gr s = (p, 2) by unfold setState; dsimp only; rw [h0]; rfl)
    clear h0
    rcases hk with hg | ⟨hg, h1, h2⟩ | ⟨hg, h1, h2, h3⟩
    all_goals
      have hg' := Lib.hid hg
      clear hg
      go_enter Try.func45, Try.ntmps45
      go_wp2_with (first | ((with_reducible refine Se.isL (o := ⟨some 8, _, _, _, _, _⟩) ?_); (refine Se.toL rfl (Se.al (o := ⟨some 8, _, _, _, _, _⟩) hs rfl (rfl) ?_); clear hs; rintro w g8 - hs)) | ((with_reducible refine Se.isL (o := ⟨some 27, _, _, _, _, _⟩) ?_); (refine Se.toL rfl (Se.ldw (o := ⟨some 27, _, _, _, _, _⟩) hs rfl rfl ((Reads.blk 1 rfl)) ((by kernel_rfl)) (by kernel_rfl) ?_))) | ((with_reducible refine Se.isL (o := ⟨none, Op.store 59 _ _, _, _, _, _⟩) ?_); (refine Se.toL rfl (Se.sow 0 hs rfl rfl rfl rfl ((by simp [Value.oneCell'])) ((by kernel_rfl)) (rfl) ?_); clear hs; intro w hs; try simp only [List.set_cons_zero] at hs)) | ((first | with_reducible refine Se.ab hs ?_ | with_reducible refine Se.abc hs ?_); clear hs; (first | (generalize w.heap.size = g4; intro w hs))) | (go_at_call 57; refine Calls.mono (rgroup_st' hs gr hg'.out) ?_; clear hs; rintro e w ⟨rfl, hs⟩))
      refine Se.ret hs [rv p _ c, .int .i64 2] rfl ⟨Se.resRow rfl (Reads.blk 0 rfl) (by kernel_rfl) (by kernel_rfl), rfl, trivial⟩ (Nat.le_refl _) rfl ?_
      rw [hf.out]
      exact ⟨_, _, rfl, hs.drop.drop.dup HM.out⟩
  · have hg' := Lib.hid hg
    have hgb : 0 ≤ gr ∧ gr < 129 := by
      have : 1 ≤ gr ∧ gr ≤ 128 := by simpa [grp] using hg
      omega
    obtain ⟨hg1, hg2⟩ := hgb
    by_cases hri : rng p i = 0
    · have hf := Lib.hid (show setState p i gr s = (put p i { get p i with st := (get p i).st.set gr.toNat s }, 0) by unfold setState; dsimp only; rw [h0, hri]; rfl)
      have HRI := Lib.hid hri
      have hin : 0 ≤ i ∧ i < p.l.length := by unfold rng at hri; split at hri; omega; cases hri
      obtain ⟨hi0, hi1⟩ := hin
      have hok := HP.out.get hri
      have hokx : okS { get p i with st := (get p i).st.set gr.toNat s } := ⟨hok.1, hok.2.1, by simpa using hok.2.2⟩
      obtain ⟨xs, hxs⟩ : ∃ xs, xs = cS (get p i) := ⟨_, rfl⟩
      obtain ⟨xs2, hxs2⟩ : ∃ xs2, cS { get p i with st := (get p i).st.set gr.toNat s } = xs2 := ⟨_, rfl⟩
      have XL := Lib.hid (show xs.length = 131 by rw [hxs]; exact cS_length hok)
      have XL2 := Lib.hid (show xs2.length = 131 by rw [← hxs2]; exact cS_length hokx)
      have XO := Lib.hid (show ∀ v ∈ xs, v.oneCell' = true by rw [hxs]; exact cS_one _)
      have R39 := Lib.hid (show ∀ L : List At, At.rd (some ⟨g, off, none⟩) (cells p.l) ∈ L → Reads L (some ⟨g, off + i.toNat * 131, none⟩) xs from fun _ h => hxs ▸ r_path HP.out hri (Reads.rdm h))
      have XS := Lib.hid (show xs.set (2 + gr.toNat) (.int .i64 s) = xs2 by rw [hxs, ← hxs2]; exact cS_set _ hok s)
      have HX2 := Lib.hid hxs2
      have HOX := Lib.hid hokx
      clear hg h0 hri hok hokx hxs hxs2
      rcases hk with rfl | ⟨h15, h1, h4⟩
      all_goals
        go_enter Try.func45, Try.ntmps45
        go_wp2_with (first | ((with_reducible refine Se.isL (o := ⟨some 8, _, _, _, _, _⟩) ?_); (refine Se.toL rfl (Se.al (o := ⟨some 8, _, _, _, _, _⟩) hs rfl (rfl) ?_); clear hs; rintro w g8 - hs)) | ((with_reducible refine Se.isL (o := ⟨some 28, _, _, _, _, _⟩) ?_); (refine Se.toL rfl (Se.ldw (o := ⟨some 28, _, _, _, _, _⟩) hs rfl rfl ((Reads.blk 1 rfl)) ((by kernel_rfl)) (by kernel_rfl) ?_))) | ((with_reducible refine Se.isL (o := ⟨some 36, _, _, _, _, _⟩) ?_); (refine Se.toL rfl (Se.ld (o := ⟨some 36, _, _, _, _, _⟩) hs rfl rfl (Cell.blk 1 rfl rfl) (by kernel_rfl) ?_))) | ((with_reducible refine Se.isL (o := ⟨some 39, _, _, _, _, _⟩) ?_); (refine Se.toL rfl (Se.ldw (o := ⟨some 39, _, _, _, _, _⟩) hs rfl rfl ((R39.out _ (by simp only [List.mem_cons, HM.out, or_true]))) ((by rw [XL.out]; kernel_rfl)) (by kernel_rfl) ?_))) | ((with_reducible refine Se.isL (o := ⟨some 11, _, _, _, _, _⟩) ?_); (refine Se.toL rfl (Se.al (o := ⟨some 11, _, _, _, _, _⟩) hs rfl (Z.out) ?_); clear hs; rintro w g11 - hs)) | ((with_reducible refine Se.isL (o := ⟨none, Op.store 3 _ _, _, _, _, _⟩) ?_); ((first | refine Se.toL rfl (Se.soq 0 (v := .int _ _) hs rfl rfl rfl rfl rfl (by kernel_rfl) ((by rw [XL.out]; omega)) (XS.out) ?_) | refine Se.toL rfl (Se.soq 0 (v := .bool _) hs rfl rfl rfl rfl rfl (by kernel_rfl) ((by rw [XL.out]; omega)) (XS.out) ?_) | refine Se.toL rfl (Se.soq 0 (v := .slice _ _ _) hs rfl rfl rfl rfl rfl (by kernel_rfl) ((by rw [XL.out]; omega)) (XS.out) ?_) | refine Se.toL rfl (Se.soq 0 (v := .pointer _) hs rfl rfl rfl rfl rfl (by kernel_rfl) ((by rw [XL.out]; omega)) (XS.out) ?_) | refine Se.toL rfl (Se.soq 0 (v := .string _) hs rfl rfl rfl rfl rfl (by kernel_rfl) ((by rw [XL.out]; omega)) (XS.out) ?_) | refine Se.toL rfl (Se.soq 0 (v := .map _) hs rfl rfl rfl rfl rfl (by kernel_rfl) ((by rw [XL.out]; omega)) (XS.out) ?_) | refine Se.toL rfl (Se.soq 0 (v := .func _ _ _) hs rfl rfl rfl rfl rfl (by kernel_rfl) ((by rw [XL.out]; omega)) (XS.out) ?_) | refine Se.toL rfl (Se.soq 0 (v := .nilFunc) hs rfl rfl rfl rfl rfl (by kernel_rfl) ((by rw [XL.out]; omega)) (XS.out) ?_)); clear hs; intro w hs; try simp only [List.set_cons_zero] at hs)) | ((with_reducible refine Se.isL (o := ⟨none, Op.store 70 _ _, _, _, _, _⟩) ?_); (refine Se.toL rfl (Se.sow 0 hs rfl rfl rfl rfl (XO.out) ((by rw [XL.out]; kernel_rfl)) ((by rw [XL.out, ZL.out])) ?_); clear hs; intro w hs; try simp only [List.set_cons_zero] at hs)) | ((with_reducible refine Se.isL (o := ⟨some 44, _, _, _, _, _⟩) ?_); (refine Se.toL rfl (Se.ldw (o := ⟨some 44, _, _, _, _, _⟩) hs rfl rfl ((Reads.blk 2 rfl)) ((by kernel_rfl)) (by kernel_rfl) ?_))) | ((with_reducible refine Se.isL (o := ⟨some 46, _, _, _, _, _⟩) ?_); (refine Se.toL rfl (Se.ldw (o := ⟨some 46, _, _, _, _, _⟩) hs rfl rfl ((Reads.blk 0 rfl)) ((by rw [XL2.out]; kernel_rfl)) (by kernel_rfl) ?_))) | ((with_reducible refine Se.isL (o := ⟨none, Op.store 59 _ _, _, _, _, _⟩) ?_); (refine Se.toL rfl (Se.sow 2 hs rfl rfl rfl rfl ((by simp [Value.oneCell'])) ((by kernel_rfl)) (rfl) ?_); clear hs; intro w hs; try simp only [List.set_cons_zero, List.set_cons_succ] at hs)) | ((first | with_reducible refine Se.ab hs ?_ | with_reducible refine Se.abc hs ?_); clear hs; (first | (generalize w.heap.size = g4; intro w hs))) | (go_at_call 57; refine Calls.mono (rgroup_st' hs gr hg'.out) ?_; clear hs; rintro e w ⟨rfl, hs⟩) | (go_at_call 58; refine Calls.mono (wrong_st' hs i HRI.out) ?_; clear hs; rintro e w ⟨rfl, hs⟩) | (go_at_call 59; refine Calls.mono (rset_st' hs (by simp only [List.mem_cons, HM.out, or_true]) HP.out i HRI.out _ HOX.out HX2.out) ?_; clear hs; rintro e w ⟨A', c', rfl, hs⟩))
        refine Se.ret hs [rv _ _ _, .int .i64 0] rfl ⟨Se.resRow rfl (Reads.blk 2 rfl) (by kernel_rfl) (by kernel_rfl), rfl, trivial⟩ (Nat.le_refl _) rfl ?_
        rw [hf.out]
        exact ⟨_, _, rfl, hs.u31.drop.drop.drop⟩
    · have hf := Lib.hid (show setState p i gr s = (p, 3) by
        have : rng p i = 3 := by unfold rng at hri ⊢; split <;> simp_all
        unfold setState; dsimp only; rw [h0, this]; rfl)
      have HRI := Lib.hid (show rng p i = 3 by unfold rng at hri ⊢; split <;> simp_all)
      clear hg h0 hri
      rcases hk with rfl | ⟨h15, h1, h4⟩
      all_goals
        go_enter Try.func45, Try.ntmps45
        go_wp2_with (first | ((with_reducible refine Se.isL (o := ⟨some 8, _, _, _, _, _⟩) ?_); (refine Se.toL rfl (Se.al (o := ⟨some 8, _, _, _, _, _⟩) hs rfl (rfl) ?_); clear hs; rintro w g8 - hs)) | ((with_reducible refine Se.isL (o := ⟨some 28, _, _, _, _, _⟩) ?_); (refine Se.toL rfl (Se.ldw (o := ⟨some 28, _, _, _, _, _⟩) hs rfl rfl ((Reads.blk 1 rfl)) ((by kernel_rfl)) (by kernel_rfl) ?_))) | ((with_reducible refine Se.isL (o := ⟨some 33, _, _, _, _, _⟩) ?_); (refine Se.toL rfl (Se.ldw (o := ⟨some 33, _, _, _, _, _⟩) hs rfl rfl ((Reads.blk 1 rfl)) ((by kernel_rfl)) (by kernel_rfl) ?_))) | ((with_reducible refine Se.isL (o := ⟨none, Op.store 59 _ _, _, _, _, _⟩) ?_); (refine Se.toL rfl (Se.sow 0 hs rfl rfl rfl rfl ((by simp [Value.oneCell'])) ((by kernel_rfl)) (rfl) ?_); clear hs; intro w hs; try simp only [List.set_cons_zero] at hs)) | ((first | with_reducible refine Se.ab hs ?_ | with_reducible refine Se.abc hs ?_); clear hs; (first | (generalize w.heap.size = g4; intro w hs))) | (go_at_call 57; refine Calls.mono (rgroup_st' hs gr hg'.out) ?_; clear hs; rintro e w ⟨rfl, hs⟩) | (go_at_call 58; refine Calls.mono (wrong_st' hs i HRI.out) ?_; clear hs; rintro e w ⟨rfl, hs⟩))
        refine Se.ret hs [rv p _ c, .int .i64 3] rfl ⟨Se.resRow rfl (Reads.blk 0 rfl) (by kernel_rfl) (by kernel_rfl), rfl, trivial⟩ (Nat.le_refl _) rfl ?_
        rw [hf.out]
        exact ⟨_, _, rfl, hs.drop.drop.dup HM.out⟩
end Pa
end Go.Proofs.Ytplhelhijjmlaaa

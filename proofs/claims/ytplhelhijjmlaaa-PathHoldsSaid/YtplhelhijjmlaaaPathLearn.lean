/- Layer 45: Learn. -/
import Derived.Test.YtplhelhijjmlaaaPathRDec
namespace Go.Proofs.Ytplhelhijjmlaaa
open Go Go.RowKit
namespace Pa
open Se (St At Reads Cell)
variable {w0 w : World} {X : List Nat} {L : List At} {D g off c : Nat} {p : PP}
abbrev gen3 : List MapEntry := [Se.me .u8 1 (.int .i64 4) 0, Se.me .u8 2 (.int .i64 3) 1, Se.me .u8 3 (.int .i64 15) 2]
theorem three (c : Int) : c = 1 ∨ c = 2 ∨ c = 3 ∨ Hid (learnt c = none ∧ Instr.findNow (.int .u8) (.int .u8 c) gen3 0 = some none) := by
  by_cases h : c = 1 ∨ c = 2 ∨ c = 3
  · omega
  · refine .inr (.inr (.inr (Lib.hid ⟨?_, ?_⟩)))
    · unfold learnt; rw [if_neg (by omega), if_neg (by omega), if_neg (by omega)]
    rcases MapKept.findNow_spec (d := .int .u8) (k := .int .u8 c) (by simp [MapKept.IsKey]) gen3 0 (by simp [MapKept.IsKey, Se.me]) with ⟨h1, _⟩ | ⟨j, e, _, he, hk⟩
    · exact h1
    · have := List.mem_of_getElem? he
      simp [Se.me] at this
      rcases this with rfl | rfl | rfl <;> simp at hk <;> omega
theorem zAS : (Try.prog.info? 36).bind (·.zero) = some (.int .i64 0) := by kernel_rfl
set_option maxRecDepth 100000 in
set_option maxHeartbeats 4000000 in
theorem learn_st (hs : St w0 X (pD D (some ⟨g, off, none⟩) c p :: pG g off c p :: L) w) (hp : OkP p) (i gr : Int) (s : Sta) :
    Calls Try.prog 30 #[.pointer (some ⟨D, 0, none⟩), .int .i64 i, .int .i64 gr, stv s] w fun e w' => e = .returned (.int .i64 (learn p i gr s).2) ∧ St w0 X (pD D (some ⟨g, off, none⟩) c (learn p i gr s).1 :: pG g off c (learn p i gr s).1 :: L) w' := by
  have HP := Lib.hid hp
  clear hp
  obtain ⟨ty, code, more, never⟩ := s
  obtain ⟨y, hy⟩ : ∃ y, y = at' p i (grp gr) := ⟨_, rfl⟩
  have HY := Lib.hid hy
  by_cases hz : y = 0
  · have hri := (at_ok (hy.symm.trans hz)).2
    have hgg := (at_ok (hy.symm.trans hz)).1
    obtain ⟨hg1, hg2, hg3, hg4⟩ : 0 ≤ gr ∧ gr < 129 ∧ 1 ≤ gr ∧ gr ≤ 128 := by
      have : 1 ≤ gr ∧ gr ≤ 128 := by simpa [grp] using hgg
      omega
    have HRI := Lib.hid hri
    have HGG := Lib.hid hgg
    have HZ := Lib.hid hz
    have hf0 : learn p i gr ⟨ty, code, more, never⟩ = match (if ty = 3 then learnt code else none) with
        | some t => (put p i { get p i with st := (get p i).st.set gr.toNat t }, 0)
        | none => (p, 0) := by
      unfold learn; dsimp only; rw [← hy, if_neg (by simpa using hz)]; rfl
    by_cases h3 : ty = 3
    · subst h3
      rw [if_pos rfl] at hf0
      have hf1 : ∀ t, learnt code = some t → learn p i gr ⟨3, code, more, never⟩ = (put p i { get p i with st := (get p i).st.set gr.toNat t }, 0) := fun t h => by rw [hf0, h]
      have hf2 : learnt code = none → learn p i gr ⟨3, code, more, never⟩ = (p, 0) := fun h => by rw [hf0, h]
      rcases three code with rfl | rfl | rfl | HF
      iterate 3
        · have hf := Lib.hid (hf1 _ rfl)
          clear hri hgg hy hz hf0 hf1 hf2
          go_enter Try.func30, Try.ntmps30
          go_wp2_with (first | ((with_reducible refine Se.isL (o := ⟨some 25, _, _, _, _, _⟩) ?_); (refine Se.toL rfl (Se.mm (o := ⟨some 25, _, _, _, _, _⟩) hs rfl ?_); clear hs; rintro w g25 - hs)) | ((with_reducible refine Se.isL (o := ⟨none, _, _, _, _, _⟩) ?_); ((first | refine Se.toL rfl (Se.mi 0 (v := .int _ _) hs rfl rfl rfl rfl rfl Try.underlying110 Try.underlying5 (by rfl) ?_) | refine Se.toL rfl (Se.mi 0 (v := .bool _) hs rfl rfl rfl rfl rfl Try.underlying110 Try.underlying5 (by rfl) ?_) | refine Se.toL rfl (Se.mi 0 (v := .string _) hs rfl rfl rfl rfl rfl Try.underlying110 Try.underlying5 (by rfl) ?_)); clear hs; intro w hs; try simp only [List.set_cons_zero, List.nil_append, List.cons_append, Nat.reduceAdd] at hs)) | ((with_reducible refine Se.isL (o := ⟨some 30, _, _, _, _, _⟩) ?_); (refine Se.toL rfl (Se.ld (o := ⟨some 30, _, _, _, _, _⟩) hs rfl rfl (Cell.blk 3 rfl rfl) (by kernel_rfl) ?_))) | ((with_reducible refine Se.isL (o := ⟨some 31, _, _, _, _, _⟩) ?_); (refine Se.toL rfl (Se.ml (o := ⟨some 31, _, _, _, _, _⟩) hs rfl rfl rfl (List.mem_cons_self) Try.underlying110 Try.underlying5 (zAS) ((by rfl)) ?_))) | ((with_reducible refine Se.isL (o := ⟨some 37, _, _, _, _, _⟩) ?_); (refine Se.toL rfl (Se.ld (o := ⟨some 37, _, _, _, _, _⟩) hs rfl rfl (Cell.blk 3 rfl rfl) (by kernel_rfl) ?_))) | ((with_reducible refine Se.isL (o := ⟨none, _, _, _, _, _⟩) ?_); ((first | refine Se.toL rfl (Se.sooe 2 (v := .int _ _) hs rfl rfl rfl rfl rfl (by kernel_rfl) ((by omega)) ((by rw [cells_len HP.out]; have := rng_lt HRI.out; omega)) ((set_st HP.out HRI.out HGG.out _)) ?_) | refine Se.toL rfl (Se.sooe 2 (v := .bool _) hs rfl rfl rfl rfl rfl (by kernel_rfl) ((by omega)) ((by rw [cells_len HP.out]; have := rng_lt HRI.out; omega)) ((set_st HP.out HRI.out HGG.out _)) ?_) | refine Se.toL rfl (Se.sooe 2 (v := .slice _ _ _) hs rfl rfl rfl rfl rfl (by kernel_rfl) ((by omega)) ((by rw [cells_len HP.out]; have := rng_lt HRI.out; omega)) ((set_st HP.out HRI.out HGG.out _)) ?_) | refine Se.toL rfl (Se.sooe 2 (v := .pointer _) hs rfl rfl rfl rfl rfl (by kernel_rfl) ((by omega)) ((by rw [cells_len HP.out]; have := rng_lt HRI.out; omega)) ((set_st HP.out HRI.out HGG.out _)) ?_) | refine Se.toL rfl (Se.sooe 2 (v := .string _) hs rfl rfl rfl rfl rfl (by kernel_rfl) ((by omega)) ((by rw [cells_len HP.out]; have := rng_lt HRI.out; omega)) ((set_st HP.out HRI.out HGG.out _)) ?_) | refine Se.toL rfl (Se.sooe 2 (v := .map _) hs rfl rfl rfl rfl rfl (by kernel_rfl) ((by omega)) ((by rw [cells_len HP.out]; have := rng_lt HRI.out; omega)) ((set_st HP.out HRI.out HGG.out _)) ?_) | refine Se.toL rfl (Se.sooe 2 (v := .func _ _ _) hs rfl rfl rfl rfl rfl (by kernel_rfl) ((by omega)) ((by rw [cells_len HP.out]; have := rng_lt HRI.out; omega)) ((set_st HP.out HRI.out HGG.out _)) ?_) | refine Se.toL rfl (Se.sooe 2 (v := .nilFunc) hs rfl rfl rfl rfl rfl (by kernel_rfl) ((by omega)) ((by rw [cells_len HP.out]; have := rng_lt HRI.out; omega)) ((set_st HP.out HRI.out HGG.out _)) ?_)); clear hs; intro w hs; try simp only [List.set_cons_zero, List.set_cons_succ] at hs)) | ((first | with_reducible refine Se.ab hs ?_ | with_reducible refine Se.abc hs ?_); clear hs; (first | (generalize w.heap.size = g7; intro w hs))) | (go_at_call 36; refine Calls.mono (group_st hs gr) ?_; clear hs; rintro e w ⟨rfl, hs⟩) | (go_at_call 34; refine Calls.mono (at_ok_st hs.u21 HP.out i _ (HY.out.symm.trans HZ.out)) ?_; clear hs; rintro e w ⟨rfl, hs⟩))
          go_ret
          rw [hf.out, pD_put, pG_put]
          exact ⟨rfl, hs.drop.u12.drop⟩
      · have hf := Lib.hid (hf2 HF.out.1)
        clear hri hgg hy hz hf0 hf1 hf2
        go_enter Try.func30, Try.ntmps30
        go_wp2_with (first | ((with_reducible refine Se.isL (o := ⟨some 25, _, _, _, _, _⟩) ?_); (refine Se.toL rfl (Se.mm (o := ⟨some 25, _, _, _, _, _⟩) hs rfl ?_); clear hs; rintro w g25 - hs)) | ((with_reducible refine Se.isL (o := ⟨none, _, _, _, _, _⟩) ?_); ((first | refine Se.toL rfl (Se.mi 0 (v := .int _ _) hs rfl rfl rfl rfl rfl Try.underlying110 Try.underlying5 (by rfl) ?_) | refine Se.toL rfl (Se.mi 0 (v := .bool _) hs rfl rfl rfl rfl rfl Try.underlying110 Try.underlying5 (by rfl) ?_) | refine Se.toL rfl (Se.mi 0 (v := .string _) hs rfl rfl rfl rfl rfl Try.underlying110 Try.underlying5 (by rfl) ?_)); clear hs; intro w hs; try simp only [List.set_cons_zero, List.nil_append, List.cons_append, Nat.reduceAdd] at hs)) | ((with_reducible refine Se.isL (o := ⟨some 30, _, _, _, _, _⟩) ?_); (refine Se.toL rfl (Se.ld (o := ⟨some 30, _, _, _, _, _⟩) hs rfl rfl (Cell.blk 3 rfl rfl) (by kernel_rfl) ?_))) | ((with_reducible refine Se.isL (o := ⟨some 31, _, _, _, _, _⟩) ?_); (refine Se.toL rfl (Se.ml (o := ⟨some 31, _, _, _, _, _⟩) hs rfl rfl rfl (List.mem_cons_self) Try.underlying110 Try.underlying5 (zAS) (HF.out.2) ?_))) | ((first | with_reducible refine Se.ab hs ?_ | with_reducible refine Se.abc hs ?_); clear hs; (first | (generalize w.heap.size = g7; intro w hs))) | (go_at_call 36; refine Calls.mono (group_st hs gr) ?_; clear hs; rintro e w ⟨rfl, hs⟩) | (go_at_call 34; refine Calls.mono (at_ok_st hs.u21 HP.out i _ (HY.out.symm.trans HZ.out)) ?_; clear hs; rintro e w ⟨rfl, hs⟩))
        go_ret
        rw [hf.out]
        exact ⟨rfl, hs.drop.u12.drop⟩
    · rw [if_neg h3] at hf0
      have hf := Lib.hid hf0
      have h3' : (ty == 3) = false := by simpa using h3
      clear hri hgg hy hz hf0 h3
      rcases three code with rfl | rfl | rfl | HF
      iterate 3
        · go_enter Try.func30, Try.ntmps30
          go_wp2_with (first | ((with_reducible refine Se.isL (o := ⟨some 25, _, _, _, _, _⟩) ?_); (refine Se.toL rfl (Se.mm (o := ⟨some 25, _, _, _, _, _⟩) hs rfl ?_); clear hs; rintro w g25 - hs)) | ((with_reducible refine Se.isL (o := ⟨none, _, _, _, _, _⟩) ?_); ((first | refine Se.toL rfl (Se.mi 0 (v := .int _ _) hs rfl rfl rfl rfl rfl Try.underlying110 Try.underlying5 (by rfl) ?_) | refine Se.toL rfl (Se.mi 0 (v := .bool _) hs rfl rfl rfl rfl rfl Try.underlying110 Try.underlying5 (by rfl) ?_) | refine Se.toL rfl (Se.mi 0 (v := .string _) hs rfl rfl rfl rfl rfl Try.underlying110 Try.underlying5 (by rfl) ?_)); clear hs; intro w hs; try simp only [List.set_cons_zero, List.nil_append, List.cons_append, Nat.reduceAdd] at hs)) | ((with_reducible refine Se.isL (o := ⟨some 30, _, _, _, _, _⟩) ?_); (refine Se.toL rfl (Se.ld (o := ⟨some 30, _, _, _, _, _⟩) hs rfl rfl (Cell.blk 3 rfl rfl) (by kernel_rfl) ?_))) | ((with_reducible refine Se.isL (o := ⟨some 31, _, _, _, _, _⟩) ?_); (refine Se.toL rfl (Se.ml (o := ⟨some 31, _, _, _, _, _⟩) hs rfl rfl rfl (List.mem_cons_self) Try.underlying110 Try.underlying5 (zAS) ((by rfl)) ?_))) | ((with_reducible refine Se.isL (o := ⟨some 37, _, _, _, _, _⟩) ?_); (refine Se.toL rfl (Se.ld (o := ⟨some 37, _, _, _, _, _⟩) hs rfl rfl (Cell.blk 3 rfl rfl) (by kernel_rfl) ?_))) | ((first | with_reducible refine Se.ab hs ?_ | with_reducible refine Se.abc hs ?_); clear hs; (first | (generalize w.heap.size = g7; intro w hs))) | (go_at_call 36; refine Calls.mono (group_st hs gr) ?_; clear hs; rintro e w ⟨rfl, hs⟩) | (go_at_call 34; refine Calls.mono (at_ok_st hs.u21 HP.out i _ (HY.out.symm.trans HZ.out)) ?_; clear hs; rintro e w ⟨rfl, hs⟩))
          go_ret
          rw [hf.out]
          exact ⟨rfl, hs.drop.u12.drop⟩
      · go_enter Try.func30, Try.ntmps30
        go_wp2_with (first | ((with_reducible refine Se.isL (o := ⟨some 25, _, _, _, _, _⟩) ?_); (refine Se.toL rfl (Se.mm (o := ⟨some 25, _, _, _, _, _⟩) hs rfl ?_); clear hs; rintro w g25 - hs)) | ((with_reducible refine Se.isL (o := ⟨none, _, _, _, _, _⟩) ?_); ((first | refine Se.toL rfl (Se.mi 0 (v := .int _ _) hs rfl rfl rfl rfl rfl Try.underlying110 Try.underlying5 (by rfl) ?_) | refine Se.toL rfl (Se.mi 0 (v := .bool _) hs rfl rfl rfl rfl rfl Try.underlying110 Try.underlying5 (by rfl) ?_) | refine Se.toL rfl (Se.mi 0 (v := .string _) hs rfl rfl rfl rfl rfl Try.underlying110 Try.underlying5 (by rfl) ?_)); clear hs; intro w hs; try simp only [List.set_cons_zero, List.nil_append, List.cons_append, Nat.reduceAdd] at hs)) | ((with_reducible refine Se.isL (o := ⟨some 30, _, _, _, _, _⟩) ?_); (refine Se.toL rfl (Se.ld (o := ⟨some 30, _, _, _, _, _⟩) hs rfl rfl (Cell.blk 3 rfl rfl) (by kernel_rfl) ?_))) | ((with_reducible refine Se.isL (o := ⟨some 31, _, _, _, _, _⟩) ?_); (refine Se.toL rfl (Se.ml (o := ⟨some 31, _, _, _, _, _⟩) hs rfl rfl rfl (List.mem_cons_self) Try.underlying110 Try.underlying5 (zAS) (HF.out.2) ?_))) | ((first | with_reducible refine Se.ab hs ?_ | with_reducible refine Se.abc hs ?_); clear hs; (first | (generalize w.heap.size = g7; intro w hs))) | (go_at_call 36; refine Calls.mono (group_st hs gr) ?_; clear hs; rintro e w ⟨rfl, hs⟩) | (go_at_call 34; refine Calls.mono (at_ok_st hs.u21 HP.out i _ (HY.out.symm.trans HZ.out)) ?_; clear hs; rintro e w ⟨rfl, hs⟩))
        go_ret
        rw [hf.out]
        exact ⟨rfl, hs.drop.u12.drop⟩
  · have hf := Lib.hid (show learn p i gr ⟨ty, code, more, never⟩ = (p, y) by unfold learn; dsimp only; rw [← hy, if_pos hz])
    have hz' : (y == 0) = false := by simpa using hz
    have hz'' : (!decide (y = 0)) = true := by simpa using hz
    have HZ := Lib.hid hz
    clear hy hz
    go_enter Try.func30, Try.ntmps30
    go_wp2_with (first | ((first | with_reducible refine Se.ab hs ?_ | with_reducible refine Se.abc hs ?_); clear hs; (first | (generalize w.heap.size = g7; intro w hs))) | (go_at_call 36; refine Calls.mono (group_st hs gr) ?_; clear hs; rintro e w ⟨rfl, hs⟩) | (go_at_call 34; refine Calls.mono (at_no_st hs.u21 HP.out i _ y HY.out.symm HZ.out) ?_; clear hs; rintro e w ⟨rfl, hs⟩))
    go_ret
    rw [hf.out]
    exact ⟨rfl, hs.u12.drop⟩
end Pa
end Go.Proofs.Ytplhelhijjmlaaa

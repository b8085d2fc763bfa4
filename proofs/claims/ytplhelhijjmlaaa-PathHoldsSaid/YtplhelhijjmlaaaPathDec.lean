/- Layer 45: the decision about a status, in the program and in the reference. -/
import Derived.Test.YtplhelhijjmlaaaPathM3
namespace Go.Proofs.Ytplhelhijjmlaaa
open Go Go.RowKit
namespace Pa
open Se (St At Reads Cell)
variable {w0 w : World} {X : List Nat} {L : List At} {D g off c : Nat} {p : PP}
abbrev stv (s : Sta) : Value := .agg #[.int .u8 s.ty, .int .u8 s.code, .bool s.more, .bool s.never]
def okSt (s : Sta) : Prop := 0 ≤ s.ty ∧ s.ty ≤ 255 ∧ 0 ≤ s.code ∧ s.code ≤ 255
abbrev gen6 : List MapEntry := [Se.me .u8 4 (.int .i64 2) 0, Se.me .u8 5 (.int .i64 3) 1, Se.me .u8 6 (.int .i64 2) 2, Se.me .u8 7 (.int .i64 3) 3, Se.me .u8 8 (.int .i64 3) 4, Se.me .u8 130 (.int .i64 2) 5]
theorem zPA : (Try.prog.info? 24).bind (·.zero) = some (.int .i64 0) := by kernel_rfl
theorem six (c : Int) : c = 4 ∨ c = 5 ∨ c = 6 ∨ c = 7 ∨ c = 8 ∨ c = 130 ∨ Hid ((c ≠ 4 ∧ c ≠ 5 ∧ c ≠ 6 ∧ c ≠ 7 ∧ c ≠ 8 ∧ c ≠ 130) ∧ Instr.findNow (.int .u8) (.int .u8 c) gen6 0 = some none) := by
  by_cases h : c = 4 ∨ c = 5 ∨ c = 6 ∨ c = 7 ∨ c = 8 ∨ c = 130
  · omega
  · refine .inr (.inr (.inr (.inr (.inr (.inr (Lib.hid ⟨by omega, ?_⟩))))))
    rcases MapKept.findNow_spec (d := .int .u8) (k := .int .u8 c) (by simp [MapKept.IsKey]) gen6 0 (by simp [MapKept.IsKey, Se.me]) with ⟨h1, _⟩ | ⟨j, e, _, he, hk⟩
    · exact h1
    · have := List.mem_of_getElem? he
      simp [Se.me] at this
      rcases this with rfl | rfl | rfl | rfl | rfl | rfl <;> simp at hk <;> omega
set_option maxRecDepth 100000 in
set_option maxHeartbeats 4000000 in
theorem decide_st (hs : St w0 X L w) (s : Sta) :
    Calls Try.prog 9 #[stv s] w fun e w' => e = .returned (.int .i64 (decide' s)) ∧ St w0 X L w' := by
  obtain ⟨ty, code, more, never⟩ := s
  by_cases hz : ty = 0 ∧ code = 0 ∧ more = false ∧ never = false
  · obtain ⟨rfl, rfl, rfl, rfl⟩ := hz
    go_enter Try.func9, Try.ntmps9
    go_wp2_with (first | ((with_reducible refine Se.isL (o := ⟨some 6, _, _, _, _, _⟩) ?_); (refine Se.toL rfl (Se.mm (o := ⟨some 6, _, _, _, _, _⟩) hs rfl ?_); clear hs; rintro w g6 - hs)) | ((with_reducible refine Se.isL (o := ⟨none, _, _, _, _, _⟩) ?_); ((first | refine Se.toL rfl (Se.mi 0 (v := .int _ _) hs rfl rfl rfl rfl rfl Try.underlying79 Try.underlying5 (by rfl) ?_) | refine Se.toL rfl (Se.mi 0 (v := .bool _) hs rfl rfl rfl rfl rfl Try.underlying79 Try.underlying5 (by rfl) ?_) | refine Se.toL rfl (Se.mi 0 (v := .string _) hs rfl rfl rfl rfl rfl Try.underlying79 Try.underlying5 (by rfl) ?_)); clear hs; intro w hs; try simp only [List.set_cons_zero, List.nil_append, List.cons_append, Nat.reduceAdd] at hs)) | ((with_reducible refine Se.isL (o := ⟨some 9, _, _, _, _, _⟩) ?_); (refine Se.toL rfl (Se.ldw (o := ⟨some 9, _, _, _, _, _⟩) hs rfl rfl ((Reads.blk 1 rfl)) ((by kernel_rfl)) (by kernel_rfl) ?_))) | ((first | with_reducible refine Se.ab hs ?_ | with_reducible refine Se.abc hs ?_); clear hs; (first | (generalize w.heap.size = g1; intro w hs))))
    go_ret
    exact ⟨rfl, hs.drop.drop⟩
  · by_cases hn : never = true
    · subst hn
      clear hz
      go_enter Try.func9, Try.ntmps9
      go_wp2_with (first | ((with_reducible refine Se.isL (o := ⟨some 6, _, _, _, _, _⟩) ?_); (refine Se.toL rfl (Se.mm (o := ⟨some 6, _, _, _, _, _⟩) hs rfl ?_); clear hs; rintro w g6 - hs)) | ((with_reducible refine Se.isL (o := ⟨none, _, _, _, _, _⟩) ?_); ((first | refine Se.toL rfl (Se.mi 0 (v := .int _ _) hs rfl rfl rfl rfl rfl Try.underlying79 Try.underlying5 (by rfl) ?_) | refine Se.toL rfl (Se.mi 0 (v := .bool _) hs rfl rfl rfl rfl rfl Try.underlying79 Try.underlying5 (by rfl) ?_) | refine Se.toL rfl (Se.mi 0 (v := .string _) hs rfl rfl rfl rfl rfl Try.underlying79 Try.underlying5 (by rfl) ?_)); clear hs; intro w hs; try simp only [List.set_cons_zero, List.nil_append, List.cons_append, Nat.reduceAdd] at hs)) | ((with_reducible refine Se.isL (o := ⟨some 9, _, _, _, _, _⟩) ?_); (refine Se.toL rfl (Se.ldw (o := ⟨some 9, _, _, _, _, _⟩) hs rfl rfl ((Reads.blk 1 rfl)) ((by kernel_rfl)) (by kernel_rfl) ?_))) | ((with_reducible refine Se.isL (o := ⟨some 14, _, _, _, _, _⟩) ?_); (refine Se.toL rfl (Se.ld (o := ⟨some 14, _, _, _, _, _⟩) hs rfl rfl (Cell.blk 1 rfl rfl) (by kernel_rfl) ?_))) | ((first | with_reducible refine Se.ab hs ?_ | with_reducible refine Se.abc hs ?_); clear hs; (first | (generalize w.heap.size = g1; intro w hs))))
      go_ret
      exact ⟨by simp [decide'], hs.drop.drop⟩
    · obtain rfl : never = false := by simpa using hn
      have hz2 : (ty == 0) = false ∨ (ty = 0 ∧ (code == 0) = false) ∨ (ty = 0 ∧ code = 0 ∧ more = true) := by
        simp only [beq_eq_false_iff_ne, ne_eq]
        cases more
        · have : ¬ (ty = 0 ∧ code = 0) := fun h => hz ⟨h.1, h.2, rfl, rfl⟩
          simp; omega
        · simp; omega
      clear hz hn
      rcases hz2 with h1 | ⟨rfl, h1⟩ | ⟨rfl, rfl, rfl⟩
      · by_cases h3 : ty = 3
        · subst h3
          go_enter Try.func9, Try.ntmps9
          go_wp2_with (first | ((with_reducible refine Se.isL (o := ⟨some 6, _, _, _, _, _⟩) ?_); (refine Se.toL rfl (Se.mm (o := ⟨some 6, _, _, _, _, _⟩) hs rfl ?_); clear hs; rintro w g6 - hs)) | ((with_reducible refine Se.isL (o := ⟨none, _, _, _, _, _⟩) ?_); ((first | refine Se.toL rfl (Se.mi 0 (v := .int _ _) hs rfl rfl rfl rfl rfl Try.underlying79 Try.underlying5 (by rfl) ?_) | refine Se.toL rfl (Se.mi 0 (v := .bool _) hs rfl rfl rfl rfl rfl Try.underlying79 Try.underlying5 (by rfl) ?_) | refine Se.toL rfl (Se.mi 0 (v := .string _) hs rfl rfl rfl rfl rfl Try.underlying79 Try.underlying5 (by rfl) ?_)); clear hs; intro w hs; try simp only [List.set_cons_zero, List.nil_append, List.cons_append, Nat.reduceAdd] at hs)) | ((with_reducible refine Se.isL (o := ⟨some 9, _, _, _, _, _⟩) ?_); (refine Se.toL rfl (Se.ldw (o := ⟨some 9, _, _, _, _, _⟩) hs rfl rfl ((Reads.blk 1 rfl)) ((by kernel_rfl)) (by kernel_rfl) ?_))) | ((with_reducible refine Se.isL (o := ⟨some 14, _, _, _, _, _⟩) ?_); (refine Se.toL rfl (Se.ld (o := ⟨some 14, _, _, _, _, _⟩) hs rfl rfl (Cell.blk 1 rfl rfl) (by kernel_rfl) ?_))) | ((with_reducible refine Se.isL (o := ⟨some 17, _, _, _, _, _⟩) ?_); (refine Se.toL rfl (Se.ld (o := ⟨some 17, _, _, _, _, _⟩) hs rfl rfl (Cell.blk 1 rfl rfl) (by kernel_rfl) ?_))) | ((first | with_reducible refine Se.ab hs ?_ | with_reducible refine Se.abc hs ?_); clear hs; (first | (generalize w.heap.size = g1; intro w hs))))
          go_ret
          exact ⟨by simp [decide'], hs.drop.drop⟩
        · have h3' : (ty == 3) = false := by simpa using h3
          have HD := Lib.hid (show decide' ⟨ty, code, more, false⟩ = 4 by
            have h0 : ty ≠ 0 := by simpa using h1
            simp [decide', h0, h3])
          clear h3
          rcases six code with rfl | rfl | rfl | rfl | rfl | rfl | HF
          iterate 6
            · go_enter Try.func9, Try.ntmps9
              go_wp2_with (first | ((with_reducible refine Se.isL (o := ⟨some 6, _, _, _, _, _⟩) ?_); (refine Se.toL rfl (Se.mm (o := ⟨some 6, _, _, _, _, _⟩) hs rfl ?_); clear hs; rintro w g6 - hs)) | ((with_reducible refine Se.isL (o := ⟨none, _, _, _, _, _⟩) ?_); ((first | refine Se.toL rfl (Se.mi 0 (v := .int _ _) hs rfl rfl rfl rfl rfl Try.underlying79 Try.underlying5 (by rfl) ?_) | refine Se.toL rfl (Se.mi 0 (v := .bool _) hs rfl rfl rfl rfl rfl Try.underlying79 Try.underlying5 (by rfl) ?_) | refine Se.toL rfl (Se.mi 0 (v := .string _) hs rfl rfl rfl rfl rfl Try.underlying79 Try.underlying5 (by rfl) ?_)); clear hs; intro w hs; try simp only [List.set_cons_zero, List.nil_append, List.cons_append, Nat.reduceAdd] at hs)) | ((with_reducible refine Se.isL (o := ⟨some 9, _, _, _, _, _⟩) ?_); (refine Se.toL rfl (Se.ldw (o := ⟨some 9, _, _, _, _, _⟩) hs rfl rfl ((Reads.blk 1 rfl)) ((by kernel_rfl)) (by kernel_rfl) ?_))) | ((with_reducible refine Se.isL (o := ⟨some 14, _, _, _, _, _⟩) ?_); (refine Se.toL rfl (Se.ld (o := ⟨some 14, _, _, _, _, _⟩) hs rfl rfl (Cell.blk 1 rfl rfl) (by kernel_rfl) ?_))) | ((with_reducible refine Se.isL (o := ⟨some 17, _, _, _, _, _⟩) ?_); (refine Se.toL rfl (Se.ld (o := ⟨some 17, _, _, _, _, _⟩) hs rfl rfl (Cell.blk 1 rfl rfl) (by kernel_rfl) ?_))) | ((with_reducible refine Se.isL (o := ⟨some 22, _, _, _, _, _⟩) ?_); (refine Se.toL rfl (Se.ld (o := ⟨some 22, _, _, _, _, _⟩) hs rfl rfl (Cell.blk 1 rfl rfl) (by kernel_rfl) ?_))) | ((with_reducible refine Se.isL (o := ⟨some 23, _, _, _, _, _⟩) ?_); (refine Se.toL rfl (Se.ml (o := ⟨some 23, _, _, _, _, _⟩) hs rfl rfl rfl (List.mem_cons_self) Try.underlying79 Try.underlying5 (zPA) ((by rfl)) ?_))) | ((with_reducible refine Se.isL (o := ⟨some 29, _, _, _, _, _⟩) ?_); (refine Se.toL rfl (Se.ld (o := ⟨some 29, _, _, _, _, _⟩) hs rfl rfl (Cell.blk 1 rfl rfl) (by kernel_rfl) ?_))) | ((first | with_reducible refine Se.ab hs ?_ | with_reducible refine Se.abc hs ?_); clear hs; (first | (generalize w.heap.size = g1; intro w hs))))
              go_ret
              rw [HD.out]
              exact ⟨rfl, hs.drop.drop⟩
          · go_enter Try.func9, Try.ntmps9
            go_wp2_with (first | ((with_reducible refine Se.isL (o := ⟨some 6, _, _, _, _, _⟩) ?_); (refine Se.toL rfl (Se.mm (o := ⟨some 6, _, _, _, _, _⟩) hs rfl ?_); clear hs; rintro w g6 - hs)) | ((with_reducible refine Se.isL (o := ⟨none, _, _, _, _, _⟩) ?_); ((first | refine Se.toL rfl (Se.mi 0 (v := .int _ _) hs rfl rfl rfl rfl rfl Try.underlying79 Try.underlying5 (by rfl) ?_) | refine Se.toL rfl (Se.mi 0 (v := .bool _) hs rfl rfl rfl rfl rfl Try.underlying79 Try.underlying5 (by rfl) ?_) | refine Se.toL rfl (Se.mi 0 (v := .string _) hs rfl rfl rfl rfl rfl Try.underlying79 Try.underlying5 (by rfl) ?_)); clear hs; intro w hs; try simp only [List.set_cons_zero, List.nil_append, List.cons_append, Nat.reduceAdd] at hs)) | ((with_reducible refine Se.isL (o := ⟨some 9, _, _, _, _, _⟩) ?_); (refine Se.toL rfl (Se.ldw (o := ⟨some 9, _, _, _, _, _⟩) hs rfl rfl ((Reads.blk 1 rfl)) ((by kernel_rfl)) (by kernel_rfl) ?_))) | ((with_reducible refine Se.isL (o := ⟨some 14, _, _, _, _, _⟩) ?_); (refine Se.toL rfl (Se.ld (o := ⟨some 14, _, _, _, _, _⟩) hs rfl rfl (Cell.blk 1 rfl rfl) (by kernel_rfl) ?_))) | ((with_reducible refine Se.isL (o := ⟨some 17, _, _, _, _, _⟩) ?_); (refine Se.toL rfl (Se.ld (o := ⟨some 17, _, _, _, _, _⟩) hs rfl rfl (Cell.blk 1 rfl rfl) (by kernel_rfl) ?_))) | ((with_reducible refine Se.isL (o := ⟨some 22, _, _, _, _, _⟩) ?_); (refine Se.toL rfl (Se.ld (o := ⟨some 22, _, _, _, _, _⟩) hs rfl rfl (Cell.blk 1 rfl rfl) (by kernel_rfl) ?_))) | ((with_reducible refine Se.isL (o := ⟨some 23, _, _, _, _, _⟩) ?_); (refine Se.toL rfl (Se.ml (o := ⟨some 23, _, _, _, _, _⟩) hs rfl rfl rfl (List.mem_cons_self) Try.underlying79 Try.underlying5 (zPA) (HF.out.2) ?_))) | ((with_reducible refine Se.isL (o := ⟨some 29, _, _, _, _, _⟩) ?_); (refine Se.toL rfl (Se.ld (o := ⟨some 29, _, _, _, _, _⟩) hs rfl rfl (Cell.blk 1 rfl rfl) (by kernel_rfl) ?_))) | ((first | with_reducible refine Se.ab hs ?_ | with_reducible refine Se.abc hs ?_); clear hs; (first | (generalize w.heap.size = g1; intro w hs))))
            go_ret
            rw [HD.out]
            exact ⟨rfl, hs.drop.drop⟩
      · rcases six code with rfl | rfl | rfl | rfl | rfl | rfl | HF
        iterate 6
          · go_enter Try.func9, Try.ntmps9
            go_wp2_with (first | ((with_reducible refine Se.isL (o := ⟨some 6, _, _, _, _, _⟩) ?_); (refine Se.toL rfl (Se.mm (o := ⟨some 6, _, _, _, _, _⟩) hs rfl ?_); clear hs; rintro w g6 - hs)) | ((with_reducible refine Se.isL (o := ⟨none, _, _, _, _, _⟩) ?_); ((first | refine Se.toL rfl (Se.mi 0 (v := .int _ _) hs rfl rfl rfl rfl rfl Try.underlying79 Try.underlying5 (by rfl) ?_) | refine Se.toL rfl (Se.mi 0 (v := .bool _) hs rfl rfl rfl rfl rfl Try.underlying79 Try.underlying5 (by rfl) ?_) | refine Se.toL rfl (Se.mi 0 (v := .string _) hs rfl rfl rfl rfl rfl Try.underlying79 Try.underlying5 (by rfl) ?_)); clear hs; intro w hs; try simp only [List.set_cons_zero, List.nil_append, List.cons_append, Nat.reduceAdd] at hs)) | ((with_reducible refine Se.isL (o := ⟨some 9, _, _, _, _, _⟩) ?_); (refine Se.toL rfl (Se.ldw (o := ⟨some 9, _, _, _, _, _⟩) hs rfl rfl ((Reads.blk 1 rfl)) ((by kernel_rfl)) (by kernel_rfl) ?_))) | ((with_reducible refine Se.isL (o := ⟨some 14, _, _, _, _, _⟩) ?_); (refine Se.toL rfl (Se.ld (o := ⟨some 14, _, _, _, _, _⟩) hs rfl rfl (Cell.blk 1 rfl rfl) (by kernel_rfl) ?_))) | ((with_reducible refine Se.isL (o := ⟨some 17, _, _, _, _, _⟩) ?_); (refine Se.toL rfl (Se.ld (o := ⟨some 17, _, _, _, _, _⟩) hs rfl rfl (Cell.blk 1 rfl rfl) (by kernel_rfl) ?_))) | ((with_reducible refine Se.isL (o := ⟨some 22, _, _, _, _, _⟩) ?_); (refine Se.toL rfl (Se.ld (o := ⟨some 22, _, _, _, _, _⟩) hs rfl rfl (Cell.blk 1 rfl rfl) (by kernel_rfl) ?_))) | ((with_reducible refine Se.isL (o := ⟨some 23, _, _, _, _, _⟩) ?_); (refine Se.toL rfl (Se.ml (o := ⟨some 23, _, _, _, _, _⟩) hs rfl rfl rfl (List.mem_cons_self) Try.underlying79 Try.underlying5 (zPA) ((by rfl)) ?_))) | ((with_reducible refine Se.isL (o := ⟨some 29, _, _, _, _, _⟩) ?_); (refine Se.toL rfl (Se.ld (o := ⟨some 29, _, _, _, _, _⟩) hs rfl rfl (Cell.blk 1 rfl rfl) (by kernel_rfl) ?_))) | ((first | with_reducible refine Se.ab hs ?_ | with_reducible refine Se.abc hs ?_); clear hs; (first | (generalize w.heap.size = g1; intro w hs))))
            go_ret
            exact ⟨by simp [decide', Se.me], hs.drop.drop⟩
        · have HD := Lib.hid (show decide' ⟨0, code, more, false⟩ = 4 by
            have h0 : code ≠ 0 := by simpa using h1
            have := HF.out.1
            simp [decide', h0, this])
          go_enter Try.func9, Try.ntmps9
          go_wp2_with (first | ((with_reducible refine Se.isL (o := ⟨some 6, _, _, _, _, _⟩) ?_); (refine Se.toL rfl (Se.mm (o := ⟨some 6, _, _, _, _, _⟩) hs rfl ?_); clear hs; rintro w g6 - hs)) | ((with_reducible refine Se.isL (o := ⟨none, _, _, _, _, _⟩) ?_); ((first | refine Se.toL rfl (Se.mi 0 (v := .int _ _) hs rfl rfl rfl rfl rfl Try.underlying79 Try.underlying5 (by rfl) ?_) | refine Se.toL rfl (Se.mi 0 (v := .bool _) hs rfl rfl rfl rfl rfl Try.underlying79 Try.underlying5 (by rfl) ?_) | refine Se.toL rfl (Se.mi 0 (v := .string _) hs rfl rfl rfl rfl rfl Try.underlying79 Try.underlying5 (by rfl) ?_)); clear hs; intro w hs; try simp only [List.set_cons_zero, List.nil_append, List.cons_append, Nat.reduceAdd] at hs)) | ((with_reducible refine Se.isL (o := ⟨some 9, _, _, _, _, _⟩) ?_); (refine Se.toL rfl (Se.ldw (o := ⟨some 9, _, _, _, _, _⟩) hs rfl rfl ((Reads.blk 1 rfl)) ((by kernel_rfl)) (by kernel_rfl) ?_))) | ((with_reducible refine Se.isL (o := ⟨some 14, _, _, _, _, _⟩) ?_); (refine Se.toL rfl (Se.ld (o := ⟨some 14, _, _, _, _, _⟩) hs rfl rfl (Cell.blk 1 rfl rfl) (by kernel_rfl) ?_))) | ((with_reducible refine Se.isL (o := ⟨some 17, _, _, _, _, _⟩) ?_); (refine Se.toL rfl (Se.ld (o := ⟨some 17, _, _, _, _, _⟩) hs rfl rfl (Cell.blk 1 rfl rfl) (by kernel_rfl) ?_))) | ((with_reducible refine Se.isL (o := ⟨some 22, _, _, _, _, _⟩) ?_); (refine Se.toL rfl (Se.ld (o := ⟨some 22, _, _, _, _, _⟩) hs rfl rfl (Cell.blk 1 rfl rfl) (by kernel_rfl) ?_))) | ((with_reducible refine Se.isL (o := ⟨some 23, _, _, _, _, _⟩) ?_); (refine Se.toL rfl (Se.ml (o := ⟨some 23, _, _, _, _, _⟩) hs rfl rfl rfl (List.mem_cons_self) Try.underlying79 Try.underlying5 (zPA) (HF.out.2) ?_))) | ((with_reducible refine Se.isL (o := ⟨some 29, _, _, _, _, _⟩) ?_); (refine Se.toL rfl (Se.ld (o := ⟨some 29, _, _, _, _, _⟩) hs rfl rfl (Cell.blk 1 rfl rfl) (by kernel_rfl) ?_))) | ((first | with_reducible refine Se.ab hs ?_ | with_reducible refine Se.abc hs ?_); clear hs; (first | (generalize w.heap.size = g1; intro w hs))))
          go_ret
          rw [HD.out]
          exact ⟨rfl, hs.drop.drop⟩
      · go_enter Try.func9, Try.ntmps9
        go_wp2_with (first | ((with_reducible refine Se.isL (o := ⟨some 6, _, _, _, _, _⟩) ?_); (refine Se.toL rfl (Se.mm (o := ⟨some 6, _, _, _, _, _⟩) hs rfl ?_); clear hs; rintro w g6 - hs)) | ((with_reducible refine Se.isL (o := ⟨none, _, _, _, _, _⟩) ?_); ((first | refine Se.toL rfl (Se.mi 0 (v := .int _ _) hs rfl rfl rfl rfl rfl Try.underlying79 Try.underlying5 (by rfl) ?_) | refine Se.toL rfl (Se.mi 0 (v := .bool _) hs rfl rfl rfl rfl rfl Try.underlying79 Try.underlying5 (by rfl) ?_) | refine Se.toL rfl (Se.mi 0 (v := .string _) hs rfl rfl rfl rfl rfl Try.underlying79 Try.underlying5 (by rfl) ?_)); clear hs; intro w hs; try simp only [List.set_cons_zero, List.nil_append, List.cons_append, Nat.reduceAdd] at hs)) | ((with_reducible refine Se.isL (o := ⟨some 9, _, _, _, _, _⟩) ?_); (refine Se.toL rfl (Se.ldw (o := ⟨some 9, _, _, _, _, _⟩) hs rfl rfl ((Reads.blk 1 rfl)) ((by kernel_rfl)) (by kernel_rfl) ?_))) | ((with_reducible refine Se.isL (o := ⟨some 14, _, _, _, _, _⟩) ?_); (refine Se.toL rfl (Se.ld (o := ⟨some 14, _, _, _, _, _⟩) hs rfl rfl (Cell.blk 1 rfl rfl) (by kernel_rfl) ?_))) | ((with_reducible refine Se.isL (o := ⟨some 17, _, _, _, _, _⟩) ?_); (refine Se.toL rfl (Se.ld (o := ⟨some 17, _, _, _, _, _⟩) hs rfl rfl (Cell.blk 1 rfl rfl) (by kernel_rfl) ?_))) | ((with_reducible refine Se.isL (o := ⟨some 22, _, _, _, _, _⟩) ?_); (refine Se.toL rfl (Se.ld (o := ⟨some 22, _, _, _, _, _⟩) hs rfl rfl (Cell.blk 1 rfl rfl) (by kernel_rfl) ?_))) | ((with_reducible refine Se.isL (o := ⟨some 23, _, _, _, _, _⟩) ?_); (refine Se.toL rfl (Se.ml (o := ⟨some 23, _, _, _, _, _⟩) hs rfl rfl rfl (List.mem_cons_self) Try.underlying79 Try.underlying5 (zPA) ((by rfl)) ?_))) | ((with_reducible refine Se.isL (o := ⟨some 29, _, _, _, _, _⟩) ?_); (refine Se.toL rfl (Se.ld (o := ⟨some 29, _, _, _, _, _⟩) hs rfl rfl (Cell.blk 1 rfl rfl) (by kernel_rfl) ?_))) | ((first | with_reducible refine Se.ab hs ?_ | with_reducible refine Se.abc hs ?_); clear hs; (first | (generalize w.heap.size = g1; intro w hs))))
        go_ret
        exact ⟨by simp [decide'], hs.drop.drop⟩
end Pa
end Go.Proofs.Ytplhelhijjmlaaa

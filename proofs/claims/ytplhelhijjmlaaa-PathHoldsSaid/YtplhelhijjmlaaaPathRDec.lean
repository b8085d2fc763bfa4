/- Layer 45: the reference's decision about a status. -/
import Derived.Test.YtplhelhijjmlaaaPathDec
namespace Go.Proofs.Ytplhelhijjmlaaa
open Go Go.RowKit
namespace Pa
open Se (St At Reads Cell)
variable {w0 w : World} {X : List Nat} {L : List At}
set_option maxRecDepth 100000 in
set_option maxHeartbeats 4000000 in
theorem rdecide_st (hs : St w0 X L w) (s : Sta) (hS : okSt s) :
    Calls Try.prog 10 #[stv s] w fun e w' => e = .returned (.int .i64 (decide' s)) ∧ St w0 X L w' := by
  obtain ⟨ty, code, more, never⟩ := s
  obtain ⟨hb1, hb2, hb3, hb4⟩ := hS
  simp only at hb1 hb2 hb3 hb4
  by_cases hz : ty = 0 ∧ code = 0 ∧ more = false ∧ never = false
  · obtain ⟨rfl, rfl, rfl, rfl⟩ := hz
    go_enter Try.func10, Try.ntmps10
    go_wp2_with (first | ((with_reducible refine Se.isL (o := ⟨some 5, _, _, _, _, _⟩) ?_); (refine Se.toL rfl (Se.ld (o := ⟨some 5, _, _, _, _, _⟩) hs rfl rfl (Cell.blk 0 rfl rfl) (by kernel_rfl) ?_))) | ((with_reducible refine Se.isL (o := ⟨some 8, _, _, _, _, _⟩) ?_); (refine Se.toL rfl (Se.ldw (o := ⟨some 8, _, _, _, _, _⟩) hs rfl rfl ((Reads.blk 0 rfl)) ((by kernel_rfl)) (by kernel_rfl) ?_))) | ((first | with_reducible refine Se.ab hs ?_ | with_reducible refine Se.abc hs ?_); clear hs; (first | (generalize w.heap.size = g1; intro w hs))))
    go_ret
    exact ⟨rfl, hs.drop⟩
  · by_cases hn : never = true
    · subst hn
      clear hz
      go_enter Try.func10, Try.ntmps10
      go_wp2_with (first | ((with_reducible refine Se.isL (o := ⟨some 5, _, _, _, _, _⟩) ?_); (refine Se.toL rfl (Se.ld (o := ⟨some 5, _, _, _, _, _⟩) hs rfl rfl (Cell.blk 0 rfl rfl) (by kernel_rfl) ?_))) | ((with_reducible refine Se.isL (o := ⟨some 8, _, _, _, _, _⟩) ?_); (refine Se.toL rfl (Se.ldw (o := ⟨some 8, _, _, _, _, _⟩) hs rfl rfl ((Reads.blk 0 rfl)) ((by kernel_rfl)) (by kernel_rfl) ?_))) | ((with_reducible refine Se.isL (o := ⟨some 13, _, _, _, _, _⟩) ?_); (refine Se.toL rfl (Se.ld (o := ⟨some 13, _, _, _, _, _⟩) hs rfl rfl (Cell.blk 0 rfl rfl) (by kernel_rfl) ?_))) | ((first | with_reducible refine Se.ab hs ?_ | with_reducible refine Se.abc hs ?_); clear hs; (first | (generalize w.heap.size = g1; intro w hs))))
      go_ret
      exact ⟨by simp [decide'], hs.drop⟩
    · obtain rfl : never = false := by simpa using hn
      have key : (ty == 0) = false ∧ ((ty = 3 ∧ decide' ⟨ty, code, more, false⟩ = 3) ∨ ((ty == 3) = false ∧ decide' ⟨ty, code, more, false⟩ = 4)) ∨ (ty = 0 ∧ ((code = 4 ∧ decide' ⟨ty, code, more, false⟩ = 2) ∨ (code = 5 ∧ decide' ⟨ty, code, more, false⟩ = 3) ∨ (code = 6 ∧ decide' ⟨ty, code, more, false⟩ = 2) ∨ (code = 7 ∧ decide' ⟨ty, code, more, false⟩ = 3) ∨ (code = 8 ∧ decide' ⟨ty, code, more, false⟩ = 3) ∨ (code = 130 ∧ decide' ⟨ty, code, more, false⟩ = 2) ∨ ((code == 4) = false ∧ (code == 5) = false ∧ (code == 6) = false ∧ (code == 7) = false ∧ (code == 8) = false ∧ (code == 130) = false ∧ ((code == 0) = false ∨ code = 0 ∧ more = true) ∧ decide' ⟨ty, code, more, false⟩ = 4))) := by
        simp only [beq_eq_false_iff_ne, ne_eq]
        have e1 : ¬ (ty = 0 ∧ code = 0 ∧ more = false ∧ false = false) := fun ⟨h1, h2, h3, _⟩ => hz ⟨h1, h2, h3, rfl⟩
        unfold decide'
        simp only [Bool.false_eq_true, if_false]
        by_cases h0 : ty = 0
        · subst h0
          right
          refine ⟨rfl, ?_⟩
          by_cases h4 : code = 4
          · subst h4; left; simp
          by_cases h5 : code = 5
          · subst h5; simp
          by_cases h6 : code = 6
          · subst h6; simp
          by_cases h7 : code = 7
          · subst h7; simp
          by_cases h8 : code = 8
          · subst h8; simp
          by_cases h9 : code = 130
          · subst h9; simp
          right; right; right; right; right; right
          refine ⟨h4, h5, h6, h7, h8, h9, ?_, by simp [h4, h5, h6, h7, h8, h9]; intro hc; cases more; exact absurd ⟨rfl, hc, rfl, rfl⟩ e1; rfl⟩
          by_cases hc : code = 0
          · right; refine ⟨hc, ?_⟩
            cases more
            · exact absurd ⟨rfl, hc, rfl, rfl⟩ e1
            · rfl
          · left; exact hc
        · left
          refine ⟨h0, ?_⟩
          by_cases h3 : ty = 3
          · left; exact ⟨h3, by simp [h3]⟩
          · right; exact ⟨h3, by simp [h0, h3]⟩
      clear hz hn
      rcases key with ⟨h1, ⟨rfl, hd⟩ | ⟨h3, hd⟩⟩ | ⟨rfl, ⟨rfl, hd⟩ | ⟨rfl, hd⟩ | ⟨rfl, hd⟩ | ⟨rfl, hd⟩ | ⟨rfl, hd⟩ | ⟨rfl, hd⟩ | ⟨h4, h5, h6, h7, h8, h9, h0 | ⟨rfl, rfl⟩, hd⟩⟩
      focus
        have HD := Lib.hid hd
        clear hd h1
        go_enter Try.func10, Try.ntmps10
        go_wp2_with (first | ((with_reducible refine Se.isL (o := ⟨some 5, _, _, _, _, _⟩) ?_); (refine Se.toL rfl (Se.ld (o := ⟨some 5, _, _, _, _, _⟩) hs rfl rfl (Cell.blk 0 rfl rfl) (by kernel_rfl) ?_))) | ((with_reducible refine Se.isL (o := ⟨some 8, _, _, _, _, _⟩) ?_); (refine Se.toL rfl (Se.ldw (o := ⟨some 8, _, _, _, _, _⟩) hs rfl rfl ((Reads.blk 0 rfl)) ((by kernel_rfl)) (by kernel_rfl) ?_))) | ((with_reducible refine Se.isL (o := ⟨some 13, _, _, _, _, _⟩) ?_); (refine Se.toL rfl (Se.ld (o := ⟨some 13, _, _, _, _, _⟩) hs rfl rfl (Cell.blk 0 rfl rfl) (by kernel_rfl) ?_))) | ((with_reducible refine Se.isL (o := ⟨some 16, _, _, _, _, _⟩) ?_); (refine Se.toL rfl (Se.ld (o := ⟨some 16, _, _, _, _, _⟩) hs rfl rfl (Cell.blk 0 rfl rfl) (by kernel_rfl) ?_))) | ((first | with_reducible refine Se.ab hs ?_ | with_reducible refine Se.abc hs ?_); clear hs; (first | (generalize w.heap.size = g1; intro w hs))))
        go_ret
        rw [HD.out]
        exact ⟨rfl, hs.drop⟩
      all_goals
        have HD := Lib.hid hd
        clear hd
        go_enter Try.func10, Try.ntmps10
        go_wp2_with (first | ((with_reducible refine Se.isL (o := ⟨some 5, _, _, _, _, _⟩) ?_); (refine Se.toL rfl (Se.ld (o := ⟨some 5, _, _, _, _, _⟩) hs rfl rfl (Cell.blk 0 rfl rfl) (by kernel_rfl) ?_))) | ((with_reducible refine Se.isL (o := ⟨some 8, _, _, _, _, _⟩) ?_); (refine Se.toL rfl (Se.ldw (o := ⟨some 8, _, _, _, _, _⟩) hs rfl rfl ((Reads.blk 0 rfl)) ((by kernel_rfl)) (by kernel_rfl) ?_))) | ((with_reducible refine Se.isL (o := ⟨some 13, _, _, _, _, _⟩) ?_); (refine Se.toL rfl (Se.ld (o := ⟨some 13, _, _, _, _, _⟩) hs rfl rfl (Cell.blk 0 rfl rfl) (by kernel_rfl) ?_))) | ((with_reducible refine Se.isL (o := ⟨some 16, _, _, _, _, _⟩) ?_); (refine Se.toL rfl (Se.ld (o := ⟨some 16, _, _, _, _, _⟩) hs rfl rfl (Cell.blk 0 rfl rfl) (by kernel_rfl) ?_))) | ((with_reducible refine Se.isL (o := ⟨some 20, _, _, _, _, _⟩) ?_); (refine Se.toL rfl (Se.ld (o := ⟨some 20, _, _, _, _, _⟩) hs rfl rfl (Cell.blk 0 rfl rfl) (by kernel_rfl) ?_))) | ((with_reducible refine Se.isL (o := ⟨some 37, _, _, _, _, _⟩) ?_); (refine Se.toL rfl (Se.ld (o := ⟨some 37, _, _, _, _, _⟩) hs rfl rfl (Cell.blk 0 rfl rfl) (by kernel_rfl) ?_))) | ((first | with_reducible refine Se.ab hs ?_ | with_reducible refine Se.abc hs ?_); clear hs; (first | (generalize w.heap.size = g1; intro w hs))))
        go_ret
        rw [HD.out]
        exact ⟨rfl, hs.drop⟩
end Pa
end Go.Proofs.Ytplhelhijjmlaaa

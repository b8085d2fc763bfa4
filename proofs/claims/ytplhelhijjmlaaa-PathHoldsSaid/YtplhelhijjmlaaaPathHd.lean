/- PathHolds in plain Lean: what a choice is, and how a route ends. -/
import Derived.Test.YtplhelhijjmlaaaPathActs
set_option linter.unusedSimpArgs false
set_option linter.unusedVariables false
namespace Go.Proofs.Ytplhelhijjmlaaa
namespace Pa
theorem best_spec (l : List PS) (g s : Int) : ∀ k, (bestN l g s k = none → ∀ i, i < k → use g s (l.getD i dead) = false) ∧ (∀ j, bestN l g s k = some j → j < k ∧ use g s (l.getD j dead) = true ∧ ∀ i, i < k → use g s (l.getD i dead) = true → (l.getD j dead).b ≤ (l.getD i dead).b)
  | 0 => ⟨fun _ i hi => absurd hi (Nat.not_lt_zero i), fun j h => by cases h⟩
  | k + 1 => by
    obtain ⟨h1, h2⟩ := best_spec l g s k
    unfold bestN
    cases hb : bestN l g s k with
    | none =>
      dsimp only
      cases hu : use g s (l.getD k dead) with
      | false =>
        refine ⟨fun _ i hi => ?_, fun j h => by simp at h⟩
        rcases Nat.lt_succ_iff_lt_or_eq.1 hi with hi | rfl
        · exact h1 hb i hi
        · exact hu
      | true =>
        refine ⟨fun h => by simp at h, fun j h => ?_⟩
        simp only [if_true, Option.some.injEq] at h
        subst h
        refine ⟨Nat.lt_succ_self _, hu, fun i hi hi2 => ?_⟩
        rcases Nat.lt_succ_iff_lt_or_eq.1 hi with hi | rfl
        · rw [h1 hb i hi] at hi2; cases hi2
        · exact Int.le_refl _
    | some j0 =>
      dsimp only
      obtain ⟨a1, a2, a3⟩ := h2 j0 hb
      split
      · rename_i hc
        simp only [Bool.and_eq_true, decide_eq_true_eq] at hc
        refine ⟨fun h => (by cases h), fun j h => ?_⟩
        cases h
        refine ⟨Nat.lt_succ_self _, hc.1, fun i hi hi2 => ?_⟩
        rcases Nat.lt_succ_iff_lt_or_eq.1 hi with hi | rfl
        · have := a3 i hi hi2; omega
        · exact Int.le_refl _
      · rename_i hc
        simp only [Bool.and_eq_true, decide_eq_true_eq, not_and] at hc
        refine ⟨fun h => (by cases h), fun j h => ?_⟩
        cases h
        refine ⟨Nat.lt_succ_of_lt a1, a2, fun i hi hi2 => ?_⟩
        rcases Nat.lt_succ_iff_lt_or_eq.1 hi with hi | rfl
        · exact a3 i hi hi2
        · have := hc hi2; omega
/-- What a choice is. -/
theorem pick_won {p : PP} {g n : Int} (hg : grp g = true) (h : pick p g = (n, 0)) : ∃ j : Nat, n = (j : Int) ∧ j < p.l.length ∧ (p.l.getD j dead).on = true ∧
    ((stOf (p.l.getD j dead) g = 1 ∧ ∀ i, i < p.l.length → use g 1 (p.l.getD i dead) = true → (p.l.getD j dead).b ≤ (p.l.getD i dead).b) ∨ (stOf (p.l.getD j dead) g = 2 ∧ ∀ i, i < p.l.length → use g 1 (p.l.getD i dead) = false)) := by
  obtain ⟨n1, s1⟩ := best_spec p.l g 1 p.l.length
  obtain ⟨n2, s2⟩ := best_spec p.l g 2 p.l.length
  unfold pick at h
  rw [if_neg (by simp [hg])] at h
  cases h1 : bestN p.l g 1 p.l.length with
  | some j =>
    rw [h1] at h
    obtain ⟨a1, a2, a3⟩ := s1 j h1
    simp only [Prod.mk.injEq, and_true] at h
    simp only [use, Bool.and_eq_true, decide_eq_true_eq] at a2
    exact ⟨j, h.symm, a1, a2.1, .inl ⟨a2.2, a3⟩⟩
  | none =>
    rw [h1] at h
    cases h2 : bestN p.l g 2 p.l.length with
    | some j =>
      rw [h2] at h
      obtain ⟨a1, a2, a3⟩ := s2 j h2
      simp only [Prod.mk.injEq, and_true] at h
      simp only [use, Bool.and_eq_true, decide_eq_true_eq] at a2
      exact ⟨j, h.symm, a1, a2.1, .inr ⟨a2.2, n1 h1⟩⟩
    | none =>
      rw [h2] at h
      dsimp only at h
      split at h <;> simp at h
theorem decide_cases (s : Sta) : decide' s = 1 ∨ decide' s = 2 ∨ decide' s = 3 ∨ decide' s = 4 := dec_cases s
/-- How a route ends. -/
theorem route_end {p : PP} {i g : Int} (s : Sta) {t : Int} (hr : rng p i = 0) (hg : grp g = true) (ht : 0 ≤ t) : ∃ q n a, route p i g s t = (q, n, a, 0) ∧ q.l.length = p.l.length ∧ q.tries = p.tries ∧
    (p.tries ≤ t → a = 1 ∨ a = 4) ∧ (a = 1 ∨ (a = 2 ∧ n = i) ∨ (a = 3 ∧ 0 ≤ n ∧ n < p.l.length) ∨ a = 4 ∨ a = 5) := by
  have hl := learn_l p i g s
  unfold route
  rw [show at' p i (grp g && decide (0 ≤ t)) = 0 by simp [at', hg, ht, hr]]
  generalize (learn p i g s).1 = q at hl
  dsimp only
  rw [if_neg (by simp)]
  rcases decide_cases s with h | h | h | h
  · rw [h, if_pos (by simp)]; exact ⟨q, 0, 1, rfl, hl.1, hl.2, fun _ => .inl rfl, .inl rfl⟩
  · rw [h, if_neg (by simp)]
    split
    · exact ⟨q, 0, 4, rfl, hl.1, hl.2, fun _ => .inr rfl, by simp⟩
    · rename_i hn
      split
      · exact ⟨q, i, 2, rfl, hl.1, hl.2, fun h => absurd h hn, by simp⟩
      · rcases pick_cases q hg with ⟨n, hp | hp | hp⟩
        · rw [hp, if_pos rfl]
          obtain ⟨j, rfl, hj, _⟩ := pick_won hg hp
          exact ⟨q, j, 3, rfl, hl.1, hl.2, fun h => absurd h hn, by simp; omega⟩
        · rw [hp, if_neg (by simp), if_neg (by simp)]
          exact ⟨q, 0, 4, rfl, hl.1, hl.2, fun h => absurd h hn, by simp⟩
        · rw [hp, if_neg (by simp), if_pos rfl]
          exact ⟨q, 0, 5, rfl, hl.1, hl.2, fun h => absurd h hn, by simp⟩
  · rw [h, if_neg (by simp)]
    split
    · exact ⟨q, 0, 4, rfl, hl.1, hl.2, fun _ => .inr rfl, by simp⟩
    · rename_i hn
      rw [if_neg (by simp)]
      rcases pick_cases q hg with ⟨n, hp | hp | hp⟩
      · rw [hp, if_pos rfl]
        obtain ⟨j, rfl, hj, _⟩ := pick_won hg hp
        exact ⟨q, j, 3, rfl, hl.1, hl.2, fun h => absurd h hn, by simp; omega⟩
      · rw [hp, if_neg (by simp), if_neg (by simp)]
        exact ⟨q, 0, 4, rfl, hl.1, hl.2, fun h => absurd h hn, by simp⟩
      · rw [hp, if_neg (by simp), if_pos rfl]
        exact ⟨q, 0, 5, rfl, hl.1, hl.2, fun h => absurd h hn, by simp⟩
  · rw [h, if_pos (by simp)]; exact ⟨q, 0, 4, rfl, hl.1, hl.2, fun _ => .inr rfl, by simp⟩
theorem newP1_some {n t : Int} (h1 : 1 ≤ n) (h2 : n ≤ 32) (h3 : 1 ≤ t) (h4 : t ≤ 256) : ∃ p, newP1 n t = some p ∧ OkP p ∧ (p.l.length : Int) = n ∧ p.tries = t := by
  have e : newP1 n t = some ⟨t, List.replicate n.toNat one1⟩ := by unfold newP1; rw [if_pos ⟨h1, h2, h3, h4⟩]
  exact ⟨_, e, newP1_ok e, by simp; omega, rfl⟩
theorem state_in {p : PP} {k : Nat} {g : Int} (hk : k < p.l.length) (hg : grp g = true) : state p k g = (stOf (p.l.getD k dead) g, 0) := by
  unfold state
  rw [show at' p k (grp g) = 0 by simp [at', hg, rngN hk], if_pos rfl, getN]
end Pa
end Go.Proofs.Ytplhelhijjmlaaa

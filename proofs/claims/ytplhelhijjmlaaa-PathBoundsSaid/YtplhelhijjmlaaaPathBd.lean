/- The numbers of PathBounds in plain Lean: 32 paths, one of them full. -/
import Derived.Test.YtplhelhijjmlaaaPathNew
set_option linter.unusedSimpArgs false
set_option linter.unusedVariables false
namespace Go.Proofs.Ytplhelhijjmlaaa
namespace Pa
def bestB (f : Nat → Int) : Nat → Option Nat
  | 0 => none
  | k + 1 =>
    match bestB f k with
    | none => some k
    | some j => if f k < f j then some k else some j
theorem bestB_lt (f : Nat → Int) : ∀ k j, bestB f k = some j → j < k
  | 0, j, h => by simp [bestB] at h
  | k + 1, j, h => by
    simp only [bestB] at h
    split at h
    · cases h; omega
    · rename_i j' h'
      have := bestB_lt f k j' h'
      split at h <;> cases h <;> omega
theorem bestB_congr {f f' : Nat → Int} : ∀ k, (∀ j, j < k → f j = f' j) → bestB f k = bestB f' k
  | 0, _ => rfl
  | k + 1, h => by
    have e := bestB_congr k (fun j hj => h j (by omega))
    simp only [bestB, e]
    split
    · rfl
    · rename_i j' h'
      have := bestB_lt f' k j' h'
      rw [h k (by omega), h j' (by omega)]
theorem best_all (l : List PS) (g s : Int) : ∀ k, (∀ j, j < k → use g s (l.getD j dead) = true) → bestN l g s k = bestB (fun j => (l.getD j dead).b) k
  | 0, _ => rfl
  | k + 1, h => by
    have e := best_all l g s k (fun j hj => h j (by omega))
    simp only [bestN, bestB, e, h k (by omega), if_true, Bool.true_and, decide_eq_true_eq]
    cases bestB (fun j => (l.getD j dead).b) k <;> rfl
def fullF (i : Nat) (m : Int) (j : Nat) : Int := if j = i then m else 0
theorem best_full : ∀ i, i < 32 → bestB (fullF i maxB) 32 = some (if i = 0 then 1 else 0) := by decide +kernel
theorem best_none : ∀ i, i < 32 → bestB (fullF i 0) 32 = some 0 := by decide +kernel
/-- 32 paths, the i-th with m bytes. -/
def pB (i : Nat) (m : Int) : PP := ⟨256, (List.replicate 32 one1).set i ⟨true, m, List.replicate 129 1⟩⟩
def p32 : PP := ⟨256, List.replicate 32 one1⟩
theorem pB_zero (i : Nat) (_hi : i < 32) : pB i 0 = p32 := by
  unfold pB p32
  congr 1
  apply List.ext_getElem (by rw [List.length_set])
  intro j h1 h2
  rw [List.getElem_set]
  split
  · rw [List.getElem_replicate]; rfl
  · rfl
theorem pB_len (i : Nat) (m : Int) : (pB i m).l.length = 32 := by unfold pB; rw [List.length_set, List.length_replicate]
theorem pB_get {i : Nat} (hi : i < 32) (m : Int) : get (pB i m) i = ⟨true, m, List.replicate 129 1⟩ := by
  simp only [Pa.get, pB, Int.toNat_natCast, List.getD_eq_getElem?_getD]
  rw [List.getElem?_eq_getElem (by rw [List.length_set, List.length_replicate]; exact hi), List.getElem_set_self]
  rfl
theorem pB_put {i : Nat} (m k : Int) : put (pB i m) i ⟨true, k, List.replicate 129 1⟩ = pB i k := by
  simp only [Pa.put, pB, Int.toNat_natCast, List.set_set]
theorem pB_rng {i : Nat} (hi : i < 32) (m : Int) : rng (pB i m) i = 0 := by
  unfold rng; rw [if_pos ⟨by omega, by rw [pB_len]; omega⟩]
theorem pB_ok {i : Nat} {m : Int} (h0 : 0 ≤ m) (h1 : m ≤ maxB) : OkP (pB i m) := by
  refine ⟨by show (1 : Int) ≤ 256; omega, by show (256 : Int) ≤ 256; omega, by rw [pB_len]; omega, by rw [pB_len]; omega, fun x hx => ?_⟩
  rcases List.mem_or_eq_of_mem_set hx with hx | rfl
  · rw [List.eq_of_mem_replicate hx]; exact ⟨Int.le_refl _, by decide, List.length_replicate⟩
  · exact ⟨h0, h1, List.length_replicate⟩
theorem pB_at (i : Nat) (m : Int) {j : Nat} (hj : j < 32) : (pB i m).l.getD j dead = ⟨true, fullF i m j, List.replicate 129 1⟩ := by
  simp only [pB, List.getD_eq_getElem?_getD]
  rw [List.getElem?_eq_getElem (by rw [List.length_set, List.length_replicate]; exact hj), Option.getD_some, List.getElem_set]
  unfold fullF
  by_cases h : i = j
  · rw [if_pos h, if_pos h.symm]
  · rw [if_neg h, if_neg (fun e => h e.symm), List.getElem_replicate]; rfl
theorem one_st {g : Int} (h0 : 1 ≤ g) (h1 : g ≤ 128) (b : Int) : use g 1 ⟨true, b, List.replicate 129 1⟩ = true := by
  have : g.toNat < 129 := by omega
  simp only [use, stOf, List.getD_eq_getElem?_getD, Bool.true_and, decide_eq_true_eq]
  rw [List.getElem?_eq_getElem (by rw [List.length_replicate]; exact this), Option.getD_some, List.getElem_replicate]
theorem pB_pick {i : Nat} {m : Int} {g : Int} {k : Nat} (h0 : 1 ≤ g) (h1 : g ≤ 128) (hb : bestB (fullF i m) 32 = some k) : pick (pB i m) g = ((k : Int), 0) := by
  have hg : grp g = true := by simp [grp, h0, h1]
  have e : bestN (pB i m).l g 1 (pB i m).l.length = some k := by
    rw [pB_len, best_all _ _ _ _ (fun j hj => by rw [pB_at i m hj]; exact one_st h0 h1 _), ← hb]
    exact bestB_congr 32 fun j hj => by rw [pB_at i m hj]
  unfold pick
  rw [hg, if_neg (by simp), e]
theorem pick_far (p : PP) {g : Int} (h : grp g = false) : pick p g = (0, 2) := by unfold pick; rw [if_pos h]
theorem pB_submit {i : Nat} (hi : i < 32) : submit (pB i 0) i maxB = (pB i maxB, 0) := by
  unfold submit
  simp only [at', pB_rng hi, pB_get hi]
  rw [show byt maxB = true by decide]
  simp [maxB]
  exact pB_put 0 maxB
theorem pB_more {i : Nat} (hi : i < 32) : submit (pB i maxB) i 1 = (pB i maxB, 7) := by
  unfold submit
  simp only [at', pB_rng hi, pB_get hi]
  rw [show byt 1 = true by decide]
  simp [maxB]
theorem pB_much {i : Nat} : submit (pB i maxB) i (maxB + 1) = (pB i maxB, 2) := by
  unfold submit
  simp only [at']
  rw [show byt (maxB + 1) = false by decide]
  simp
theorem pB_done {i : Nat} (hi : i < 32) : done (pB i maxB) i maxB = (pB i 0, 0) := by
  unfold done
  simp only [at', pB_rng hi, pB_get hi]
  rw [show byt maxB = true by decide]
  simp
  exact pB_put maxB 0
theorem set_group (p : PP) (i s : Int) : setState p i 129 s = (p, 2) := by
  unfold setState
  simp [at', grp]
theorem set_path {i : Nat} {m g : Int} (h0 : 1 ≤ g) (h1 : g ≤ 128) : setState (pB i m) 32 g 4 = (pB i m, 3) := by
  unfold setState
  rw [show sok 4 = true by decide, show grp g = true by simp [grp, h0, h1]]
  simp [at', rng, pB_len]
theorem pB_learn {i : Nat} (m g : Int) : (learn (pB i m) i g ⟨0, 6, false, false⟩).1 = pB i m := by
  unfold learn
  dsimp only
  split
  · rfl
  · rfl
theorem pB_here {i : Nat} (hi : i < 32) {g : Int} (h0 : 1 ≤ g) (h1 : g ≤ 128) (m : Int) : route (pB i m) i g ⟨0, 6, false, false⟩ 255 = (pB i m, (i : Int), 2, 0) := by
  unfold route
  simp only [pB_learn, at', pB_rng hi, pB_get hi]
  rw [show grp g = true by simp [grp, h0, h1], show decide' ⟨0, 6, false, false⟩ = 2 by decide]
  simp [pB]
theorem pB_gone {i : Nat} (hi : i < 32) {g : Int} (h0 : 1 ≤ g) (h1 : g ≤ 128) (m : Int) : route (pB i m) i g ⟨0, 6, false, false⟩ 256 = (pB i m, 0, 4, 0) := by
  unfold route
  simp only [pB_learn, at', pB_rng hi, pB_get hi]
  rw [show grp g = true by simp [grp, h0, h1], show decide' ⟨0, 6, false, false⟩ = 2 by decide]
  simp [pB]
end Pa
end Go.Proofs.Ytplhelhijjmlaaa

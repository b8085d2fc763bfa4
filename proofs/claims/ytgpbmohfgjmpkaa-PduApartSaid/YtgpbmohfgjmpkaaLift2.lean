/- Opening values of struct types whose cells are integers and booleans. No condition. -/
import Derived.Test.YtgpbmohfgjmpkaaLift
namespace Go.Proofs.Ytgpbmohfgjmpkaa
open Go Go.ChangeShapes Go.WideShapes Go.ChangeAt Go.RowKit
namespace Lift
variable {P : Program}
theorem open_flat {W : World} {r : Reach} {base : Nat} {t : TypeId} {fs : Array Field} {ts : List TypeId} {v : Value} (ht : P.underlying t = some (.struct fs)) (hct : P.cellTypes P.depth t = some ts) (hc : P.cellsOf t = ts.length) (hv : Value.okWide P W r base t v) :
    ∃ cs : List Value, v = .agg cs.toArray ∧ cs.length = ts.length ∧ ∀ (i : Nat) (u : TypeId) (x : Value), ts[i]? = some u → cs[i]? = some x →
      (∀ k, P.underlying u = some (TypeDesc.int k) → ∃ z, x = Value.int k z ∧ k.has z) ∧ (P.underlying u = some TypeDesc.bool → ∃ b, x = Value.bool b) := by
  unfold Value.okWide at hv
  rw [ht] at hv
  obtain ⟨cs, rfl, hsz, ts', hts, _, hcell⟩ := hv
  rw [hct] at hts
  cases hts
  refine ⟨cs.toList, by simp, by simp [hsz, hc], fun i u x hu hx => ?_⟩
  have hi : i < ts.length := (List.getElem?_eq_some_iff.1 hu).1
  obtain ⟨u', hu', hok⟩ := hcell i x (by simpa using hx)
  rw [Nat.mod_eq_of_lt hi, hu] at hu'
  cases hu'
  refine ⟨fun k hk => ?_, fun hk => ?_⟩
  · unfold Cell.okWide Cell.ok at hok
    rw [hk] at hok
    cases x <;> simp at hok
    obtain ⟨rfl, h2⟩ := hok
    exact ⟨_, rfl, h2⟩
  · unfold Cell.okWide Cell.ok at hok
    rw [hk] at hok
    cases x <;> simp at hok
    exact ⟨_, rfl⟩
end Lift
end Go.Proofs.Ytgpbmohfgjmpkaa

/- Opening the arguments of layer 45's laws. No condition. -/
import Derived.Test.YtplhelhijjmlaaaLift2
import Derived.Test.YtplhelhijjmlaaaPathLaw1
namespace Go.Proofs.Ytplhelhijjmlaaa
open Go Go.RowKit
namespace Pa
theorem u8_has {z : Int} (h : IntKind.u8.has z) : 0 ≤ z ∧ z ≤ 255 := by
  simp only [IntKind.has, IntKind.min, IntKind.max, IntKind.signed, IntKind.bits] at h
  simp at h; omega
set_option maxRecDepth 100000 in
theorem open_status {W : World} {r : Reach} {base : Nat} {v : Value} (hv : Value.okWide Try.prog W r base 23 v) : ∃ s : Sta, v = stv s ∧ okSt s := by
  obtain ⟨cs, rfl, hl, hc⟩ := Lift.open_flat (ts := [5, 5, 4, 4]) Try.underlying23 (by kernel_rfl) (by kernel_rfl) hv
  obtain ⟨x0, x1, x2, x3, rfl⟩ : ∃ x0 x1 x2 x3, cs = [x0, x1, x2, x3] := by
    match cs, hl with
    | [a, b, c, d], _ => exact ⟨a, b, c, d, rfl⟩
  obtain ⟨z0, rfl, h0⟩ := (hc 0 _ _ rfl rfl).1 _ Try.underlying5
  obtain ⟨z1, rfl, h1⟩ := (hc 1 _ _ rfl rfl).1 _ Try.underlying5
  obtain ⟨b2, rfl⟩ := (hc 2 _ _ rfl rfl).2 Try.underlying4
  obtain ⟨b3, rfl⟩ := (hc 3 _ _ rfl rfl).2 Try.underlying4
  exact ⟨⟨z0, z1, b2, b3⟩, rfl, (u8_has h0).1, (u8_has h0).2, (u8_has h1).1, (u8_has h1).2⟩
end Pa
end Go.Proofs.Ytplhelhijjmlaaa

/- Opening the arguments that layer 28's laws take. No condition. -/
import Derived.Test.YthpgkkfahiglnaaBaseB
import Derived.Test.YthpgkkfahiglnaaZoneLaw6
set_option maxRecDepth 100000
set_option linter.unusedSimpArgs false
set_option linter.unusedVariables false
namespace Go.Proofs.Ythpgkkfahiglnaa
open Go Go.RowKit
namespace Zo
theorem wf_i64 {z : Int} (h : (Lit.int .i64 z).wf = true) : z ≤ 9223372036854775807 := by
 have : -9223372036854775808 ≤ z ∧ z ≤ 9223372036854775807 := by simpa [Lit.wf, IntKind.min, IntKind.max, IntKind.signed, IntKind.bits] using h
 exact this.2
abbrev cfgK : List (Option IntKind) := [some .i64, some .i64, some .i64, some .i64, some .i64]
abbrev actK : List (Option IntKind) := [some .i64, some .i64, some .i64, some .i64]
theorem act_of {x : List Value} (h : Lift.fit actK x) : ∃ a : Ac, x = ac a ∧ a.n ≤ 9223372036854775807 := by
 obtain ⟨_, _, rfl, ⟨a0, rfl, _⟩, _, _, rfl, ⟨a1, rfl, _⟩, _, _, rfl, ⟨a2, rfl, _⟩, _, _, rfl, ⟨a3, rfl, h3⟩, h⟩ := h
 obtain rfl := h
 exact ⟨⟨a0, a1, a2, a3⟩, rfl, wf_i64 h3⟩
theorem acts_of {l : List (List Value)} (h : ∀ x ∈ l, Lift.fit actK x) : ∃ ls : List Ac, l = ls.map ac ∧ ∀ a ∈ ls, a.n ≤ 9223372036854775807 := by
 induction l with
 | nil => exact ⟨[], rfl, by simp⟩
 | cons x l ih =>
  obtain ⟨ls, rfl, h2⟩ := ih fun y hy => h y (List.mem_cons_of_mem _ hy)
  obtain ⟨a, rfl, h3⟩ := act_of (h x List.mem_cons_self)
  exact ⟨a :: ls, rfl, fun b hb => by
   rcases List.mem_cons.1 hb with rfl | hb
   ·exact h3
   ·exact h2 b hb⟩
theorem states_of {l : List (List Value)} (h : ∀ x ∈ l, Lift.fit [some .i64] x) : ∃ ls : List Int, l = ls.map (fun z => [Value.int .i64 z]) := by
 induction l with
 | nil => exact ⟨[], rfl⟩
 | cons x l ih =>
  obtain ⟨ls, rfl⟩ := ih fun y hy => h y (List.mem_cons_of_mem _ hy)
  obtain ⟨_, _, rfl, ⟨a0, rfl, _⟩, h3⟩ := h x List.mem_cons_self
  obtain rfl := h3
  exact ⟨a0 :: ls, rfl⟩
theorem ints_flat (ls : List Int) : (ls.map (fun z => [Value.int .i64 z])).flatten = ints ls := by
 induction ls with
 | nil => rfl
 | cons x l ih => rw [List.map_cons, List.flatten_cons, ih]; rfl
section
variable {H : Type} {enc : TypeId × Value → H} {W : World} {r : Reach} {base : Nat} {v : Value} {d : DataW H} {p : List MemPlace}
theorem open_acts (hv : Value.okWide Try.prog W r base 52 v) (h : DataW.Trod enc Try.prog W 0 (fun _ => true) true 52 v d p) :
  ∃ A n c, ∃ l : List Ac, v = .slice A n c ∧ n = l.length ∧ Li.Rd W A (l.flatMap ac) ∧ ∀ a ∈ l, a.n ≤ 9223372036854775807 := by
 obtain ⟨A, m, c, l, rfl, hm, hr, hf⟩ := Lift.open_flats (ks := actK) 3 Try.underlying52 (by kernel_rfl) (by kernel_rfl) (by decide) hv h
 obtain ⟨ls, rfl, ha⟩ := acts_of hf
 exact ⟨A, m, c, ls, rfl, by simpa using hm, by rwa [List.flatMap_def], ha⟩
theorem open_act (hv : Value.okWide Try.prog W r base 57 v) (h : DataW.Trod enc Try.prog W 0 (fun _ => true) true 57 v d p) : ∃ wh zi off n : Int, v = .agg #[.int .i64 wh, .int .i64 zi, .int .i64 off, .int .i64 n] ∧ n ≤ 9223372036854775807 := by
 obtain ⟨cs, rfl, hf⟩ := Lift.open_flatv (ks := actK) 3 (by kernel_rfl) (by kernel_rfl) hv h
 obtain ⟨a, rfl, ha⟩ := act_of hf
 exact ⟨_, _, _, _, rfl, ha⟩
theorem open_cfg (hv : Value.okWide Try.prog W r base 24 v) (h : DataW.Trod enc Try.prog W 0 (fun _ => true) true 24 v d p) : ∃ n sz cap mo ma : Int, v = .agg #[.int .i64 n, .int .i64 sz, .int .i64 cap, .int .i64 mo, .int .i64 ma] := by
 obtain ⟨cs, rfl, hf⟩ := Lift.open_flatv (ks := cfgK) 3 (by kernel_rfl) (by kernel_rfl) hv h
 obtain ⟨_, _, rfl, ⟨a0, rfl, _⟩, _, _, rfl, ⟨a1, rfl, _⟩, _, _, rfl, ⟨a2, rfl, _⟩, _, _, rfl, ⟨a3, rfl, _⟩, _, _, rfl, ⟨a4, rfl, _⟩, h5⟩ := hf
 obtain rfl := h5
 exact ⟨_, _, _, _, _, rfl⟩
theorem open_states (hv : Value.okWide Try.prog W r base 59 v) (h : DataW.Trod enc Try.prog W 0 (fun _ => true) true 59 v d p) :
  ∃ A n c, ∃ sl : List Int, v = .slice A n c ∧ n = sl.length ∧ Li.Rd W A (ints sl) := by
 obtain ⟨A, m, c, l, rfl, hm, hr, hf⟩ := Lift.open_flats (ks := [some .i64]) 2 Try.underlying59 (by kernel_rfl) (by kernel_rfl) (by decide) hv h
 obtain ⟨ls, rfl⟩ := states_of hf
 refine ⟨A, m, c, ls, rfl, by simpa using hm, ?_⟩
 rwa [ints_flat] at hr
end
end Zo
end Go.Proofs.Ythpgkkfahiglnaa


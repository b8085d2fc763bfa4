/- The law AuthVerifies: the results of any sequence of steps of any verifier, and its state after each, are the reference's; or the error of NewVerifier. No condition. -/
import Derived.Test.YtakdoijemopejaaGreatRows
import Derived.Test.YtakdoijemopejaaGreatBaseB
import Derived.SizedLaws
import Derived.Test.YtakdoijemopejaaGreatAuR15
import Derived.Test.YtakdoijemopejaaGreatAuOpen
set_option linter.unusedSimpArgs false
set_option linter.unusedVariables false
namespace Go.Proofs.YtakdoijemopejaaGreat.authVerifies
open Go Go.ChangeShapes Go.WideShapes Go.ChangeAt Go.RowKit
theorem own : ownKnob Tryz.prog.godebug = none := by kernel_rfl
theorem laidOut : laidOutB Tryz.prog = true := by kernel_rfl
set_option maxRecDepth 100000 in
theorem lifted (os : Os) (started : os.Started) (H : Type) (enc : TypeId × Value → H) :
  ReturnsInHanded {} Tryz.checked os 3 .any (Rows.authVerifiesSpec.pre6 enc Tryz.prog Tryz.f3 Rows.authVerifiesRow.domain false) (Rows.authVerifiesSpec.post enc Tryz.prog Tryz.f3 false true false false) := by
 refine returnsInHanded_of_change_sized (C := Tryz.checked) own started (by kernel_rfl) Tryz.func3
  (ChangeSpec.witness6 (enc := enc) (C := Tryz.checked) false ⟨#[], #[.agg #[.slice none 0 0, .string ⟨#[]⟩, .string ⟨#[]⟩], .slice none 0 0], []⟩ 8 (by kernel_rfl) (by kernel_rfl) (by kernel_rfl) (by kernel_rfl)) ?_
 intro W base args ds gs before hval0 hW hcnd hsz0 _
 have hB : ∀ (j : Nat) t d, Tryz.f3.params.toList[j]? = some t → ds[j]? = some d → ∀ k ∈ d.weights Tryz.prog t, k ≤ reachBytes := by
  intro j t d ht hd k hk
  have hm := DataW.weights_mem_each (ts := Tryz.f3.params.toList ++ Rows.authVerifiesSpec.plain.varTypes Tryz.prog) (ds := ds ++ gs) (j := j) (by rw [List.getElem?_append_left (List.getElem?_eq_some_iff.1 ht).1]; exact ht) (by rw [List.getElem?_append_left (List.getElem?_eq_some_iff.1 hd).1]; exact hd) k hk
  have := List.all_eq_true.1 hsz0 _ hm
  simpa using this
 have hval : ∀ (j : Nat) t v, Tryz.f3.params[j]? = some t → args[j]? = some v → Value.okWide Tryz.prog W .any base t v := hval0
 have hW' := hW
 obtain ⟨p, q, hA0, hV, rfl, hfz, hnd⟩ := hW
 have hA : DataW.TrodAll enc Tryz.prog W 0 (fun _ => true) true Tryz.f3.params.toList args.toList ds p := hA0
 rw [Tryz.params3] at hA hval hB
 have hA1 := hA
 obtain ⟨v0, vs0, d0, ds0, p0, q0, hargs, rfl, rfl, h0, r0⟩ := trodAll_cons hA
 obtain ⟨v1, vs1, d1, ds1, p1, q1, rfl, rfl, rfl, h1, r1⟩ := trodAll_cons r0
 obtain ⟨rfl, rfl, rfl⟩ := trodAll_nil r1
 obtain rfl : args = #[v0, v1] := by cases args; simp_all
 obtain ⟨rfl, rfl⟩ := trodVars_none hV
 obtain ⟨q0, A0, c0, rfl, hr0⟩ := Au.open_party (hval 0 24 v0 rfl rfl) h0
 obtain ⟨A1, n1, c1, R1, qs1, rfl, hn1, hR1, hq1, hS1⟩ := Au.open_acts (hval 1 25 v1 rfl rfl) h1 (hB 1 25 d1 rfl rfl)
 clear hA0 hval0
 refine (Au.verifies_any W q0 hr0 hn1 hR1 hq1 hS1).mono fun e W' ⟨he, bel⟩ => ?_
 subst he
 exact ⟨_, rfl, _, _, _, [], _, [], hW', trodAll_mk1 (shut_bool Tryz.underlying4 _), Lift.args_stay laidOut bel (by kernel_rfl) hA1, rfl, bel.frame _, fun h => by cases h⟩
theorem over : Rows.authVerifiesRow.holds Tryz.pinned (OpenSpec.ofChange Rows.authVerifiesSpec) :=
 OpenClaim.holds_of_wide 3 Tryz.f3 rfl rfl rfl rfl rfl rfl rfl ⟨rfl, rfl, rfl, rfl, rfl⟩ rfl rfl rfl rfl rfl (by kernel_rfl) Tryz.func3 (by kernel_rfl)
  (of_decide_eq_true (by kernel_rfl)) (by unfold Func.isWrapper; first | (rw [if_pos (by decide +kernel)]; kernel_rfl) | (rw [if_neg (by decide +kernel)]; exact ⟨rfl, rfl⟩))
  (fun os started H enc _ => lifted os started H enc)
theorem proved : Rows.AuthVerifiesSaid := over
#print axioms proved
end Go.Proofs.YtakdoijemopejaaGreat.authVerifies

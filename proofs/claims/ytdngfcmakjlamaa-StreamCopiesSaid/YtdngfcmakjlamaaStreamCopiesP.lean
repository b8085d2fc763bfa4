/- The law StreamCopies: a copy has the same results as the original for the same calls, and calls on one of them do not influence the other. No condition. -/
import Derived.Test.YtdngfcmakjlamaaRows
import Derived.Test.YtdngfcmakjlamaaBaseB
import Derived.SizedLaws
import Derived.Test.YtdngfcmakjlamaaStrCopy
set_option linter.unusedSimpArgs false
set_option linter.unusedVariables false
namespace Go.Proofs.Ytdngfcmakjlamaa.streamCopies
open Go Go.ChangeShapes Go.WideShapes Go.ChangeAt Go.RowKit
theorem own : ownKnob Try.prog.godebug = none := by kernel_rfl
theorem laidOut : laidOutB Try.prog = true := by kernel_rfl
set_option maxRecDepth 100000 in
theorem lifted (os : Os) (started : os.Started) (H : Type) (enc : TypeId × Value → H) :
  ReturnsInHanded {} Try.checked os 7 .any (Rows.streamCopiesSpec.pre6 enc Try.prog Try.f7 Rows.streamCopiesRow.domain false) (Rows.streamCopiesSpec.post enc Try.prog Try.f7 false true false false) := by
 refine returnsInHanded_of_change_sized (C := Try.checked) own started (by kernel_rfl) Try.func7
  (ChangeSpec.witness6 (enc := enc) (C := Try.checked) false ⟨#[], #[.agg #[.bool false, .bool false, .int .i64 0], .slice none 0 0, .slice none 0 0, .slice none 0 0], []⟩ 8 (by kernel_rfl) (by kernel_rfl) (by kernel_rfl) (by kernel_rfl)) ?_
 intro W base args ds gs before hval0 hW hcnd hsz0 _
 have hB : ∀ (j : Nat) t d, Try.f7.params.toList[j]? = some t → ds[j]? = some d → ∀ k ∈ d.weights Try.prog t, k ≤ reachBytes := by
  intro j t d ht hd k hk
  have hm := DataW.weights_mem_each (ts := Try.f7.params.toList ++ Rows.streamCopiesSpec.plain.varTypes Try.prog) (ds := ds ++ gs) (j := j) (by rw [List.getElem?_append_left (List.getElem?_eq_some_iff.1 ht).1]; exact ht) (by rw [List.getElem?_append_left (List.getElem?_eq_some_iff.1 hd).1]; exact hd) k hk
  have := List.all_eq_true.1 hsz0 _ hm
  simpa using this
 have hval : ∀ (j : Nat) t v, Try.f7.params[j]? = some t → args[j]? = some v → Value.okWide Try.prog W .any base t v := hval0
 have hW' := hW
 obtain ⟨p, q, hA0, hV, rfl, hfz, hnd⟩ := hW
 have hA : DataW.TrodAll enc Try.prog W 0 (fun _ => true) true Try.f7.params.toList args.toList ds p := hA0
 rw [Try.params7] at hA hval hB
 have hA1 := hA
 obtain ⟨v0, vs0, d0, ds0, p0, q0, hargs, rfl, rfl, h0, r0⟩ := trodAll_cons hA
 obtain ⟨v1, vs1, d1, ds1, p1, q1, rfl, rfl, rfl, h1, r1⟩ := trodAll_cons r0
 obtain ⟨v2, vs2, d2, ds2, p2, q2, rfl, rfl, rfl, h2, r2⟩ := trodAll_cons r1
 obtain ⟨v3, vs3, d3, ds3, p3, q3, rfl, rfl, rfl, h3, r3⟩ := trodAll_cons r2
 obtain ⟨rfl, rfl, rfl⟩ := trodAll_nil r3
 obtain rfl : args = #[v0, v1, v2, v3] := by cases args; simp_all
 obtain ⟨rfl, rfl⟩ := trodVars_none hV
 obtain ⟨f0, rfl⟩ := Pd.open_fm (hval 0 23 v0 rfl rfl) h0
 obtain ⟨A1, n1, c1, R1, qs1, rfl, hn1, hnB1, hR1, hq1, hl1, hS1⟩ := Sr.open_steps (hval 1 53 v1 rfl rfl) h1 (hB 1 53 d1 rfl rfl)
 obtain ⟨A2, n2, c2, R2, qs2, rfl, hn2, hnB2, hR2, hq2, hl2, hS2⟩ := Sr.open_steps (hval 2 53 v2 rfl rfl) h2 (hB 2 53 d2 rfl rfl)
 obtain ⟨A3, n3, c3, R3, qs3, rfl, hn3, hnB3, hR3, hq3, hl3, hS3⟩ := Sr.open_steps (hval 3 53 v3 rfl rfl) h3 (hB 3 53 d3 rfl rfl)
 clear hA0 hval0
 refine (Sr.copies_any f0 W hn1 hnB1 hR1 hq1 hl1 hS1 hn2 hnB2 hR2 hq2 hl2 hS2 hn3 hnB3 hR3 hq3 hl3 hS3).mono fun e W' ⟨he, bel⟩ => ?_
 subst he
 exact ⟨_, rfl, _, _, _, [], _, [], hW', trodAll_mk1 (shut_bool Try.underlying4 _), Lift.args_stay laidOut bel (by kernel_rfl) hA1, rfl, bel.frame _, fun h => by cases h⟩
theorem over : Rows.streamCopiesRow.holds Try.pinned (OpenSpec.ofChange Rows.streamCopiesSpec) :=
 OpenClaim.holds_of_wide 7 Try.f7 rfl rfl rfl rfl rfl rfl rfl ⟨rfl, rfl, rfl, rfl, rfl⟩ rfl rfl rfl rfl rfl (by kernel_rfl) Try.func7 (by kernel_rfl)
  (of_decide_eq_true (by kernel_rfl)) (by unfold Func.isWrapper; first | (rw [if_pos (by decide +kernel)]; kernel_rfl) | (rw [if_neg (by decide +kernel)]; exact ⟨rfl, rfl⟩))
  (fun os started H enc _ => lifted os started H enc)
theorem proved : Rows.StreamCopiesSaid := over
#print axioms proved
end Go.Proofs.Ytdngfcmakjlamaa.streamCopies


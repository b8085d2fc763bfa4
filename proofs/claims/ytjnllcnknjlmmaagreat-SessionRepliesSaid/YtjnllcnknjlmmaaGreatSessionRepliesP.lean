/- The law SessionReplies: the response of a read consists of its data, without gaps in PDUs of at most MaxData bytes of which the last one is marked, and the entry; more data than were asked for are rejected. No condition. -/
import Derived.Test.YtjnllcnknjlmmaaGreatRows
import Derived.Test.YtjnllcnknjlmmaaGreatKa23
import Derived.Test.YtjnllcnknjlmmaaGreatKe01
namespace Go.Proofs.YtjnllcnknjlmmaaGreat.sessionReplies
open Go Go.ChangeShapes Go.WideShapes Go.ChangeAt Go.RowKit
theorem own : ownKnob Tryz.prog.godebug = none := by kernel_rfl
theorem laidOut : laidOutB Tryz.prog = true := by kernel_rfl
set_option maxRecDepth 100000 in
theorem lifted (os : Os) (started : os.Started) (H : Type) (enc : TypeId × Value → H) :
    ReturnsInHanded {} Tryz.checked os 10 .any (Rows.sessionRepliesSpec.pre6 enc Tryz.prog Tryz.f10 Rows.sessionRepliesRow.domain false) (Rows.sessionRepliesSpec.post enc Tryz.prog Tryz.f10 false true false false) := by
  refine returnsInHanded_of_change (C := Tryz.checked) own started (by kernel_rfl) Tryz.func10
    (ChangeSpec.witness6 (enc := enc) (C := Tryz.checked) false ⟨#[], #[.agg #[.bool false, .bool false, .int .i64 0, .int .i64 0, .int .i64 0, .int .i64 0, .int .i64 0], .int .u8 0, .int .u8 0, .slice none 0 0, .int .i64 0, .agg (Array.replicate 16 (.int .u8 0))], []⟩ 8 (by kernel_rfl) (by kernel_rfl) (by kernel_rfl) (by kernel_rfl)) ?_
  intro W base args ds gs before hval0 hW hcnd _
  have hval : ∀ (j : Nat) t v, Tryz.f10.params[j]? = some t → args[j]? = some v → Value.okWide Tryz.prog W .any base t v := hval0
  have hW' := hW
  obtain ⟨p, q, hA0, hV, rfl, hfz, hnd⟩ := hW
  have hA : DataW.TrodAll enc Tryz.prog W 0 (fun _ => true) true Tryz.f10.params.toList args.toList ds p := hA0
  rw [Tryz.params10] at hA hval
  have hA1 := hA
  obtain ⟨v0, vs0, d0, ds0, p0, q0, hargs, rfl, rfl, h0, r0⟩ := trodAll_cons hA
  obtain ⟨v1, vs1, d1, ds1, p1, q1, rfl, rfl, rfl, h1, r1⟩ := trodAll_cons r0
  obtain ⟨v2, vs2, d2, ds2, p2, q2, rfl, rfl, rfl, h2, r2⟩ := trodAll_cons r1
  obtain ⟨v3, vs3, d3, ds3, p3, q3, rfl, rfl, rfl, h3, r3⟩ := trodAll_cons r2
  obtain ⟨v4, vs4, d4, ds4, p4, q4, rfl, rfl, rfl, h4, r4⟩ := trodAll_cons r3
  obtain ⟨v5, vs5, d5, ds5, p5, q5, rfl, rfl, rfl, h5, r5⟩ := trodAll_cons r4
  obtain ⟨rfl, rfl, rfl⟩ := trodAll_nil r5
  obtain rfl : args = #[v0, v1, v2, v3, v4, v5] := by cases args; simp_all
  obtain ⟨rfl, rfl⟩ := trodVars_none hV
  obtain ⟨q0, rfl⟩ := Sn.open_cfg (hval 0 23 v0 rfl rfl) h0
  obtain ⟨u1, rfl⟩ := Sn.open_u8 (hval 1 5 v1 rfl rfl)
  obtain ⟨u2, rfl⟩ := Sn.open_u8 (hval 2 5 v2 rfl rfl)
  obtain ⟨A3, n3, c3, b3, rfl, hn3, hr3, hc3⟩ := Sn.open_bytes (hval 3 24 v3 rfl rfl) h3
  obtain ⟨i4, rfl⟩ := okWide_int Tryz.underlying3 (hval 4 3 v4 rfl rfl)
  obtain ⟨bs5, rfl, hl5⟩ := Lift.open_arr8 Tryz.underlying98 Tryz.underlying5 (by kernel_rfl) (by kernel_rfl) (hval 5 98 v5 rfl rfl)
  clear hA0 hval0
  refine (Sn.replies_any q0 u1 u2 b3 W hn3 hr3 hc3 i4 bs5 hl5).mono fun e W' ⟨he, bel⟩ => ?_
  subst he
  exact ⟨_, rfl, _, _, _, [], _, [], hW', trodAll_mk1 (shut_bool Tryz.underlying4 _), Lift.args_stay laidOut bel (by kernel_rfl) hA1, rfl, bel.frame _, fun h => by cases h⟩
theorem over : Rows.sessionRepliesRow.holds Tryz.pinned (OpenSpec.ofChange Rows.sessionRepliesSpec) :=
  OpenClaim.holds_of_wide 10 Tryz.f10 rfl rfl rfl rfl rfl rfl rfl ⟨rfl, rfl, rfl, rfl, rfl⟩ rfl rfl rfl rfl rfl (by kernel_rfl) Tryz.func10 (by kernel_rfl)
    (of_decide_eq_true (by kernel_rfl)) (by unfold Func.isWrapper; first | (rw [if_pos (by decide +kernel)]; kernel_rfl) | (rw [if_neg (by decide +kernel)]; exact ⟨rfl, rfl⟩))
    (fun os started H enc _ => lifted os started H enc)
theorem proved : Rows.SessionRepliesSaid := over
#print axioms proved
end Go.Proofs.YtjnllcnknjlmmaaGreat.sessionReplies

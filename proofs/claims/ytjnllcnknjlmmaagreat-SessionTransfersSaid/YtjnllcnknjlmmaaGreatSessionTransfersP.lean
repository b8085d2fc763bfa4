/- The law SessionTransfers: a command whose data the host sends as it is asked to becomes one request with exactly these data, and every byte is requested once, in order, at most Transfer bytes at a time. No condition. -/
import Derived.Test.YtjnllcnknjlmmaaGreatRows
import Derived.Test.YtjnllcnknjlmmaaGreatKa23
import Derived.Test.YtjnllcnknjlmmaaGreatKf02
namespace Go.Proofs.YtjnllcnknjlmmaaGreat.sessionTransfers
open Go Go.ChangeShapes Go.WideShapes Go.ChangeAt Go.RowKit
theorem own : ownKnob Tryz.prog.godebug = none := by kernel_rfl
theorem laidOut : laidOutB Tryz.prog = true := by kernel_rfl
set_option maxRecDepth 100000 in
theorem lifted (os : Os) (started : os.Started) (H : Type) (enc : TypeId × Value → H) :
    ReturnsInHanded {} Tryz.checked os 9 .any (Rows.sessionTransfersSpec.pre6 enc Tryz.prog Tryz.f9 Rows.sessionTransfersRow.domain false) (Rows.sessionTransfersSpec.post enc Tryz.prog Tryz.f9 false true false false) := by
  refine returnsInHanded_of_change (C := Tryz.checked) own started (by kernel_rfl) Tryz.func9
    (ChangeSpec.witness6 (enc := enc) (C := Tryz.checked) false ⟨#[], #[.agg #[.bool false, .bool false, .int .i64 0, .int .i64 0, .int .i64 0, .int .i64 0, .int .i64 0], .int .u8 0, .int .u8 0, .slice none 0 0, .slice none 0 0], []⟩ 8 (by kernel_rfl) (by kernel_rfl) (by kernel_rfl) (by kernel_rfl)) ?_
  intro W base args ds gs before hval0 hW hcnd _
  have hval : ∀ (j : Nat) t v, Tryz.f9.params[j]? = some t → args[j]? = some v → Value.okWide Tryz.prog W .any base t v := hval0
  have hW' := hW
  obtain ⟨p, q, hA0, hV, rfl, hfz, hnd⟩ := hW
  have hA : DataW.TrodAll enc Tryz.prog W 0 (fun _ => true) true Tryz.f9.params.toList args.toList ds p := hA0
  rw [Tryz.params9] at hA hval
  have hA1 := hA
  obtain ⟨v0, vs0, d0, ds0, p0, q0, hargs, rfl, rfl, h0, r0⟩ := trodAll_cons hA
  obtain ⟨v1, vs1, d1, ds1, p1, q1, rfl, rfl, rfl, h1, r1⟩ := trodAll_cons r0
  obtain ⟨v2, vs2, d2, ds2, p2, q2, rfl, rfl, rfl, h2, r2⟩ := trodAll_cons r1
  obtain ⟨v3, vs3, d3, ds3, p3, q3, rfl, rfl, rfl, h3, r3⟩ := trodAll_cons r2
  obtain ⟨v4, vs4, d4, ds4, p4, q4, rfl, rfl, rfl, h4, r4⟩ := trodAll_cons r3
  obtain ⟨rfl, rfl, rfl⟩ := trodAll_nil r4
  obtain rfl : args = #[v0, v1, v2, v3, v4] := by cases args; simp_all
  obtain ⟨rfl, rfl⟩ := trodVars_none hV
  obtain ⟨q0, rfl⟩ := Sn.open_cfg (hval 0 23 v0 rfl rfl) h0
  obtain ⟨u1, rfl⟩ := Sn.open_u8 (hval 1 5 v1 rfl rfl)
  obtain ⟨u2, rfl⟩ := Sn.open_u8 (hval 2 5 v2 rfl rfl)
  obtain ⟨A3, n3, c3, b3, rfl, hn3, hr3, hc3⟩ := Sn.open_bytes (hval 3 24 v3 rfl rfl) h3
  obtain ⟨A4, n4, c4, z4, rfl, hn4, hr4⟩ := Sn.open_u16s (hval 4 26 v4 rfl rfl) h4
  clear hA0 hval0
  refine (Sn.transfers_any q0 u1 u2 b3 W hn3 hr3 hc3 z4 hn4 hr4).mono fun e W' ⟨he, bel⟩ => ?_
  subst he
  exact ⟨_, rfl, _, _, _, [], _, [], hW', trodAll_mk1 (shut_bool Tryz.underlying4 _), Lift.args_stay laidOut bel (by kernel_rfl) hA1, rfl, bel.frame _, fun h => by cases h⟩
theorem over : Rows.sessionTransfersRow.holds Tryz.pinned (OpenSpec.ofChange Rows.sessionTransfersSpec) :=
  OpenClaim.holds_of_wide 9 Tryz.f9 rfl rfl rfl rfl rfl rfl rfl ⟨rfl, rfl, rfl, rfl, rfl⟩ rfl rfl rfl rfl rfl (by kernel_rfl) Tryz.func9 (by kernel_rfl)
    (of_decide_eq_true (by kernel_rfl)) (by unfold Func.isWrapper; first | (rw [if_pos (by decide +kernel)]; kernel_rfl) | (rw [if_neg (by decide +kernel)]; exact ⟨rfl, rfl⟩))
    (fun os started H enc _ => lifted os started H enc)
theorem proved : Rows.SessionTransfersSaid := over
#print axioms proved
end Go.Proofs.YtjnllcnknjlmmaaGreat.sessionTransfers

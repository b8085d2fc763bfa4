/- Layer 28's reference: Damage, Zone, PowerLoss, concerns. No condition but Go's own limits. Printed by wip/gen_zoner5.py. -/
import Derived.Test.YthpgkkfahiglnaaZoneR2
set_option maxRecDepth 100000
set_option maxHeartbeats 4000000
set_option linter.unusedSimpArgs false
set_option linter.unusedVariables false
namespace Go.Proofs.Ythpgkkfahiglnaa
open Go Go.RowKit
namespace Zo
open Se (St At Reads Cell)
open Li (Rd Blk Fr)
variable {w0 w : World} {X : List Nat} {L : List At}
attribute [local irreducible] Calls
attribute [local go_sem] eql_nil
theorem rdamage_st {z : Zs} {A : Option Addr} {ZI : List Value} (hs : St w0 X L w) (hm : At.rd A (ocs z.l) ∈ L) (ho : OkZ z) (hz : RZ z A ZI) (i : Int) (off : Bool) :
  Calls Try.prog 52 #[.agg ZI.toArray, .int .i64 i, .bool off] w fun e w' => True ∧ QR w0 X L (damageE z i off) e w' := by
 obtain ⟨cc, hRZ⟩ := hz
 obtain ⟨ga, oa, rfl, _, _⟩ := (hs.hold _ hm).cells (ocs_ne (by rw [ho.1]; exact ho.2.1))
 obtain ⟨RL, hRL⟩ : ∃ RL, RL = ZI := ⟨_, rfl⟩
 rw [← hRL]
 rw [hRZ] at hRL
 obtain ⟨k, hk⟩ : ∃ n, n = z.l.length := ⟨_, rfl⟩
 have hk1 : k ≤ 4096 := by rw [hk, ho.1]; exact ho.2.2.1
 have hk0 : 1 ≤ k := by rw [hk, ho.1]; exact ho.2.1
 have RLL := Lib.hid (show RL.length = 7 by rw [hRL]; rfl)
 have RLO := Lib.hid (show ∀ v ∈ RL, v.oneCell' = true by rw [hRL]; exact zcl_one _ _ _)
 have R5 := Lib.hid (show RL[5]? = some (.slice (some ⟨ga, oa, none⟩) k cc) by rw [hRL, hk]; rfl)
 have hzr : RZ z (some ⟨ga, oa, none⟩) RL := ⟨cc, hRL⟩
 have SAME : Hid (∀ c, damageE z i off = (z, c) → ∀ w, St w0 X L w → QR w0 X L (damageE z i off) (.returned (.tuple #[.agg RL.toArray, iv c])) w) := Lib.hid (fun c he w hs => by
  rw [he]
  exact ⟨_, _, rfl, hzr, hs.dup hm⟩)
 obtain ⟨RZ0, hRZ0⟩ : ∃ R, R = zcl { c := ⟨0, 0, 0, 0, 0⟩, l := [] } none 0 := ⟨_, rfl⟩
 have ZL0 := Lib.hid (show RZ0.length = 7 by rw [hRZ0]; rfl)
 have zRz' := Lib.hid zRz
 rw [← hRZ0] at zRz'
 clear hRZ0
 by_cases hn : i < 0
 ·have f1 : decide (i < 0) = true := by simpa using hn
  have HB := Lib.hid (show damageE z i off = (z, 3) by unfold damageE; rw [if_pos (.inl hn)])
  clear hn hRL hRZ hk ho hm hzr
  go_enter Try.func52, Try.ntmps52
  go_wp2_with (first | ((with_reducible refine Se.isL (o := ⟨some 6, _, _, _, _, _⟩) ?_); (refine Se.toL rfl (Se.al (o := ⟨some 6, _, _, _, _, _⟩) hs rfl (zRz'.out) ?_); clear hs; rintro w g6 - hs)) | ((with_reducible refine Se.isL (o := ⟨some 18, _, _, _, _, _⟩) ?_); (refine Se.toL rfl (Se.ldw (o := ⟨some 18, _, _, _, _, _⟩) hs rfl rfl ((Reads.blk 1 rfl)) ((by rw [RLL.out]; kernel_rfl)) (by kernel_rfl) ?_))) | ((with_reducible refine Se.isL (o := ⟨none, Op.store 43 _ _, _, _, _, _⟩) ?_); (refine Se.toL rfl (Se.sow 0 hs rfl rfl rfl rfl (RLO.out) ((by rw [RLL.out]; kernel_rfl)) ((by rw [RLL.out, ZL0.out])) ?_); clear hs; intro w hs; try simp only [List.cons_append, List.nil_append, List.set_cons_zero] at hs)) | ((first | with_reducible refine Se.ab hs ?_ | with_reducible refine Se.abc hs ?_); clear hs; (first | (generalize w.heap.size = g3; intro w hs))))
  refine Se.ret hs [.agg RL.toArray, .int .i64 3] rfl ⟨Se.resRow rfl (Reads.blk 0 rfl) (by kernel_rfl) (by rw [RLL.out] <;> kernel_rfl), rfl, trivial⟩ (by simp) rfl ?_
  exact ⟨trivial, SAME.out 3 HB.out _ hs.drop.drop⟩
 have f1 : decide (i < 0) = false := by simpa using hn
 by_cases hn2 : (k : Int) ≤ i
 ·have f2 : decide ((k : Int) ≤ i) = true := by simpa using hn2
  have HB := Lib.hid (show damageE z i off = (z, 3) by unfold damageE; rw [if_pos (.inr (by rw [← hk]; exact hn2))])
  clear hn hn2 hRL hRZ hk ho hm hzr
  go_enter Try.func52, Try.ntmps52
  go_wp2_with (first | ((with_reducible refine Se.isL (o := ⟨some 6, _, _, _, _, _⟩) ?_); (refine Se.toL rfl (Se.al (o := ⟨some 6, _, _, _, _, _⟩) hs rfl (zRz'.out) ?_); clear hs; rintro w g6 - hs)) | ((with_reducible refine Se.isL (o := ⟨some 14, _, _, _, _, _⟩) ?_); (refine Se.toL rfl (Se.ld (o := ⟨some 14, _, _, _, _, _⟩) hs rfl rfl (Cell.blk 1 rfl R5.out) (by kernel_rfl) ?_))) | ((with_reducible refine Se.isL (o := ⟨some 18, _, _, _, _, _⟩) ?_); (refine Se.toL rfl (Se.ldw (o := ⟨some 18, _, _, _, _, _⟩) hs rfl rfl ((Reads.blk 1 rfl)) ((by rw [RLL.out]; kernel_rfl)) (by kernel_rfl) ?_))) | ((with_reducible refine Se.isL (o := ⟨none, Op.store 43 _ _, _, _, _, _⟩) ?_); (refine Se.toL rfl (Se.sow 0 hs rfl rfl rfl rfl (RLO.out) ((by rw [RLL.out]; kernel_rfl)) ((by rw [RLL.out, ZL0.out])) ?_); clear hs; intro w hs; try simp only [List.cons_append, List.nil_append, List.set_cons_zero] at hs)) | ((first | with_reducible refine Se.ab hs ?_ | with_reducible refine Se.abc hs ?_); clear hs; (first | (generalize w.heap.size = g3; intro w hs))))
  refine Se.ret hs [.agg RL.toArray, .int .i64 3] rfl ⟨Se.resRow rfl (Reads.blk 0 rfl) (by kernel_rfl) (by rw [RLL.out] <;> kernel_rfl), rfl, trivial⟩ (by simp) rfl ?_
  exact ⟨trivial, SAME.out 3 HB.out _ hs.drop.drop⟩
 have f2 : decide ((k : Int) ≤ i) = false := by simpa using hn2
 obtain ⟨j, rfl⟩ : ∃ j : Nat, i = (j : Int) := ⟨i.toNat, by omega⟩
 have hi : j < z.l.length := by omega
 obtain ⟨l, hl⟩ : ∃ l, l = z.l := ⟨_, rfl⟩
 obtain ⟨x, hx⟩ : ∃ x, x = l.getD j dz := ⟨_, rfl⟩
 obtain ⟨st, hst⟩ : ∃ p, p = x.st := ⟨_, rfl⟩
 obtain ⟨p, hp⟩ : ∃ p, p = x.p := ⟨_, rfl⟩
 have hil : j < l.length := by rw [hl]; exact hi
 have hmr : Reads L (some ⟨ga, oa, none⟩) (ocs l) := by rw [hl]; exact Reads.rdm hm
 have C0 := Lib.hid (show Cell L ga (oa + j * 3) (iv st) from rcell hmr hil 0 (by decide) (by rw [hst, hx]; rfl))
 have C1 := Lib.hid (show Cell L ga (oa + j * 3 + 1) (iv p) from rcell hmr hil 1 (by decide) (by rw [hp, hx]; rfl))
 have HRX := Lib.hid (show Reads L (some ⟨ga, oa + j * 3, none⟩) (oc x) by rw [hx, getD_get hil]; exact row_at hmr hil)
 have hik : (j : Int) < (k : Int) := by rw [hk]; omega
 obtain ⟨O, hO⟩ : ∃ O, O = oc x := ⟨_, rfl⟩
 have OL := Lib.hid (show O.length = 3 by rw [hO]; rfl)
 have OO := Lib.hid (show ∀ v ∈ O, v.oneCell' = true by rw [hO]; exact oc_one _)
 have O0 := Lib.hid (show O[0]? = some (iv st) by rw [hO, hst]; rfl)
 have HO := Lib.hid hO
 rw [← hO] at HRX
 have DAM : Hid (∀ s : Nat, (if off = true ∨ st = 13 ∨ st = 15 then 15 else 13) = s → damageE z (j : Int) off = (putS z j { x with st := s }, 0)) := Lib.hid (fun s h => by
  unfold damageE
  rw [if_neg (by omega), ← h, hst, hx, hl]
  rfl)
 have CSE : Hid (∀ (xf : Zn) (M : List At) (w : World), St w0 X (M ++ L) w → Calls Try.prog 84 #[.agg RL.toArray, .int .i64 (j : Int), .agg (oc xf).toArray] w fun e w' => Q1 w0 X (M ++ L) (putS z j xf) e w') := Lib.hid (fun xf M w hs => rset' hs (memM hm M) ho hzr hi xf)
 clear hn hn2 hRL hRZ hk ho hm hzr hl hx hst hp hil hmr hi hO
 go_enter Try.func52, Try.ntmps52
 go_upto_region 3 with (first | ((with_reducible refine Se.isL (o := ⟨some 6, _, _, _, _, _⟩) ?_); (refine Se.toL rfl (Se.al (o := ⟨some 6, _, _, _, _, _⟩) hs rfl (zRz'.out) ?_); clear hs; rintro w g6 - hs)) | ((with_reducible refine Se.isL (o := ⟨some 14, _, _, _, _, _⟩) ?_); (refine Se.toL rfl (Se.ld (o := ⟨some 14, _, _, _, _, _⟩) hs rfl rfl (Cell.blk 1 rfl R5.out) (by kernel_rfl) ?_))) | ((first | with_reducible refine Se.ab hs ?_ | with_reducible refine Se.abc hs ?_); clear hs; (first | (generalize w.heap.size = g3; intro w hs))))
 clear f1 f2
 cases off with
 | true =>
  have HB := Lib.hid (DAM.out 15 (by simp [*]))
  have CS := Lib.hid (CSE.out { x with st := 15 })
  have OS := Lib.hid (show O.set 0 (.int .i64 15) = oc { x with st := 15 } by rw [HO.out]; rfl)
  obtain ⟨O2, hO2⟩ : ∃ O, O = oc { x with st := 15 } := ⟨_, rfl⟩
  have OL2 := Lib.hid (show O2.length = 3 by rw [hO2]; rfl)
  rw [← hO2] at OS CS
  clear hO2 DAM CSE SAME HO
  go_wp2_with (first | ((with_reducible refine Se.isL (o := ⟨some 20, _, _, _, _, _⟩) ?_); (refine Se.toL rfl (Se.ld (o := ⟨some 20, _, _, _, _, _⟩) hs rfl rfl (Cell.blk 1 rfl R5.out) (by kernel_rfl) ?_))) | ((with_reducible refine Se.isL (o := ⟨some 23, _, _, _, _, _⟩) ?_); (refine Se.toL rfl (Se.ldw (o := ⟨some 23, _, _, _, _, _⟩) hs rfl rfl ((HRX.out.app [_, _])) ((by rw [OL.out]; kernel_rfl)) (by kernel_rfl) ?_))) | ((with_reducible refine Se.isL (o := ⟨some 8, _, _, _, _, _⟩) ?_); (refine Se.toL rfl (Se.al (o := ⟨some 8, _, _, _, _, _⟩) hs rfl (zRo) ?_); clear hs; rintro w g8 - hs)) | ((with_reducible refine Se.isL (o := ⟨none, Op.store 67 _ _, _, _, _, _⟩) ?_); (refine Se.toL rfl (Se.sow 0 hs rfl rfl rfl rfl (OO.out) ((by rw [OL.out]; kernel_rfl)) ((by rw [OL.out]; rfl)) ?_); clear hs; intro w hs; try simp only [List.cons_append, List.nil_append, List.set_cons_zero] at hs)) | ((with_reducible refine Se.isL (o := ⟨none, _, _, _, _, _⟩) ?_); ((first | refine Se.toL rfl (Se.soq 0 (v := .int _ _) hs rfl rfl rfl rfl rfl (by kernel_rfl) ((by rw [OL.out]; decide)) (OS.out) ?_) | refine Se.toL rfl (Se.soq 0 (v := .bool _) hs rfl rfl rfl rfl rfl (by kernel_rfl) ((by rw [OL.out]; decide)) (OS.out) ?_) | refine Se.toL rfl (Se.soq 0 (v := .slice _ _ _) hs rfl rfl rfl rfl rfl (by kernel_rfl) ((by rw [OL.out]; decide)) (OS.out) ?_) | refine Se.toL rfl (Se.soq 0 (v := .pointer _) hs rfl rfl rfl rfl rfl (by kernel_rfl) ((by rw [OL.out]; decide)) (OS.out) ?_) | refine Se.toL rfl (Se.soq 0 (v := .string _) hs rfl rfl rfl rfl rfl (by kernel_rfl) ((by rw [OL.out]; decide)) (OS.out) ?_) | refine Se.toL rfl (Se.soq 0 (v := .map _) hs rfl rfl rfl rfl rfl (by kernel_rfl) ((by rw [OL.out]; decide)) (OS.out) ?_) | refine Se.toL rfl (Se.soq 0 (v := .func _ _ _) hs rfl rfl rfl rfl rfl (by kernel_rfl) ((by rw [OL.out]; decide)) (OS.out) ?_) | refine Se.toL rfl (Se.soq 0 (v := .nilFunc) hs rfl rfl rfl rfl rfl (by kernel_rfl) ((by rw [OL.out]; decide)) (OS.out) ?_)); clear hs; intro w hs; try simp only [List.cons_append, List.nil_append, List.set_cons_zero] at hs)) | ((with_reducible refine Se.isL (o := ⟨some 37, _, _, _, _, _⟩) ?_); (refine Se.toL rfl (Se.ldw (o := ⟨some 37, _, _, _, _, _⟩) hs rfl rfl ((Reads.blk 2 rfl)) ((by rw [RLL.out]; kernel_rfl)) (by kernel_rfl) ?_))) | ((with_reducible refine Se.isL (o := ⟨some 39, _, _, _, _, _⟩) ?_); (refine Se.toL rfl (Se.ldw (o := ⟨some 39, _, _, _, _, _⟩) hs rfl rfl ((Reads.blk 0 rfl)) ((by rw [OL2.out]; kernel_rfl)) (by kernel_rfl) ?_))) | ((with_reducible refine Se.isL (o := ⟨none, Op.store 43 _ _, _, _, _, _⟩) ?_); (refine Se.toL rfl (Se.sow 2 hs rfl rfl rfl rfl (hzn.one) ((by rw [hzn.len]; kernel_rfl)) ((by rw [hzn.len, ZL0.out])) ?_); clear hs; intro w hs; try simp only [List.cons_append, List.nil_append, List.set_cons_zero, List.set_cons_succ] at hs)) | (go_at_call 84; refine Calls.mono (CS.out [_, _, _] _ hs) ?_; clear hs; rintro e w ⟨A', ZN, rfl, hzn, hs⟩))
  refine Se.ret hs [.agg ZN.toArray, .int .i64 0] rfl ⟨Se.resRow rfl (Reads.blk 2 rfl) (by kernel_rfl) (by rw [hzn.len] <;> kernel_rfl), rfl, trivial⟩ (by simp) rfl ?_
  refine ⟨trivial, ?_⟩
  rw [HB.out]
  exact ⟨A', ZN, rfl, hzn, hs.sub (List.Sublist.cons_cons _ (.cons _ (.cons _ (.cons _ (List.Sublist.refl _)))))⟩
 | false =>
 by_cases h1 : st = 13
 ·have d1 : ((st : Int) == 13) = true := by simp; omega
  have HB := Lib.hid (DAM.out 15 (by simp [*]))
  have CS := Lib.hid (CSE.out { x with st := 15 })
  have OS := Lib.hid (show O.set 0 (.int .i64 15) = oc { x with st := 15 } by rw [HO.out]; rfl)
  obtain ⟨O2, hO2⟩ : ∃ O, O = oc { x with st := 15 } := ⟨_, rfl⟩
  have OL2 := Lib.hid (show O2.length = 3 by rw [hO2]; rfl)
  rw [← hO2] at OS CS
  clear h1 hO2 DAM CSE SAME HO
  go_wp2_with (first | ((with_reducible refine Se.isL (o := ⟨some 20, _, _, _, _, _⟩) ?_); (refine Se.toL rfl (Se.ld (o := ⟨some 20, _, _, _, _, _⟩) hs rfl rfl (Cell.blk 1 rfl R5.out) (by kernel_rfl) ?_))) | ((with_reducible refine Se.isL (o := ⟨some 23, _, _, _, _, _⟩) ?_); (refine Se.toL rfl (Se.ldw (o := ⟨some 23, _, _, _, _, _⟩) hs rfl rfl ((HRX.out.app [_, _])) ((by rw [OL.out]; kernel_rfl)) (by kernel_rfl) ?_))) | ((with_reducible refine Se.isL (o := ⟨some 8, _, _, _, _, _⟩) ?_); (refine Se.toL rfl (Se.al (o := ⟨some 8, _, _, _, _, _⟩) hs rfl (zRo) ?_); clear hs; rintro w g8 - hs)) | ((with_reducible refine Se.isL (o := ⟨none, Op.store 67 _ _, _, _, _, _⟩) ?_); (refine Se.toL rfl (Se.sow 0 hs rfl rfl rfl rfl (OO.out) ((by rw [OL.out]; kernel_rfl)) ((by rw [OL.out]; rfl)) ?_); clear hs; intro w hs; try simp only [List.cons_append, List.nil_append, List.set_cons_zero] at hs)) | ((with_reducible refine Se.isL (o := ⟨some 27, _, _, _, _, _⟩) ?_); (refine Se.toL rfl (Se.ld (o := ⟨some 27, _, _, _, _, _⟩) hs rfl rfl (Cell.blk 0 rfl O0.out) (by kernel_rfl) ?_))) | ((with_reducible refine Se.isL (o := ⟨none, _, _, _, _, _⟩) ?_); ((first | refine Se.toL rfl (Se.soq 0 (v := .int _ _) hs rfl rfl rfl rfl rfl (by kernel_rfl) ((by rw [OL.out]; decide)) (OS.out) ?_) | refine Se.toL rfl (Se.soq 0 (v := .bool _) hs rfl rfl rfl rfl rfl (by kernel_rfl) ((by rw [OL.out]; decide)) (OS.out) ?_) | refine Se.toL rfl (Se.soq 0 (v := .slice _ _ _) hs rfl rfl rfl rfl rfl (by kernel_rfl) ((by rw [OL.out]; decide)) (OS.out) ?_) | refine Se.toL rfl (Se.soq 0 (v := .pointer _) hs rfl rfl rfl rfl rfl (by kernel_rfl) ((by rw [OL.out]; decide)) (OS.out) ?_) | refine Se.toL rfl (Se.soq 0 (v := .string _) hs rfl rfl rfl rfl rfl (by kernel_rfl) ((by rw [OL.out]; decide)) (OS.out) ?_) | refine Se.toL rfl (Se.soq 0 (v := .map _) hs rfl rfl rfl rfl rfl (by kernel_rfl) ((by rw [OL.out]; decide)) (OS.out) ?_) | refine Se.toL rfl (Se.soq 0 (v := .func _ _ _) hs rfl rfl rfl rfl rfl (by kernel_rfl) ((by rw [OL.out]; decide)) (OS.out) ?_) | refine Se.toL rfl (Se.soq 0 (v := .nilFunc) hs rfl rfl rfl rfl rfl (by kernel_rfl) ((by rw [OL.out]; decide)) (OS.out) ?_)); clear hs; intro w hs; try simp only [List.cons_append, List.nil_append, List.set_cons_zero] at hs)) | ((with_reducible refine Se.isL (o := ⟨some 37, _, _, _, _, _⟩) ?_); (refine Se.toL rfl (Se.ldw (o := ⟨some 37, _, _, _, _, _⟩) hs rfl rfl ((Reads.blk 2 rfl)) ((by rw [RLL.out]; kernel_rfl)) (by kernel_rfl) ?_))) | ((with_reducible refine Se.isL (o := ⟨some 39, _, _, _, _, _⟩) ?_); (refine Se.toL rfl (Se.ldw (o := ⟨some 39, _, _, _, _, _⟩) hs rfl rfl ((Reads.blk 0 rfl)) ((by rw [OL2.out]; kernel_rfl)) (by kernel_rfl) ?_))) | ((with_reducible refine Se.isL (o := ⟨none, Op.store 43 _ _, _, _, _, _⟩) ?_); (refine Se.toL rfl (Se.sow 2 hs rfl rfl rfl rfl (hzn.one) ((by rw [hzn.len]; kernel_rfl)) ((by rw [hzn.len, ZL0.out])) ?_); clear hs; intro w hs; try simp only [List.cons_append, List.nil_append, List.set_cons_zero, List.set_cons_succ] at hs)) | (go_at_call 84; refine Calls.mono (CS.out [_, _, _] _ hs) ?_; clear hs; rintro e w ⟨A', ZN, rfl, hzn, hs⟩))
  refine Se.ret hs [.agg ZN.toArray, .int .i64 0] rfl ⟨Se.resRow rfl (Reads.blk 2 rfl) (by kernel_rfl) (by rw [hzn.len] <;> kernel_rfl), rfl, trivial⟩ (by simp) rfl ?_
  refine ⟨trivial, ?_⟩
  rw [HB.out]
  exact ⟨A', ZN, rfl, hzn, hs.sub (List.Sublist.cons_cons _ (.cons _ (.cons _ (.cons _ (List.Sublist.refl _)))))⟩
 have d1 : ((st : Int) == 13) = false := by simp; omega
 by_cases h2 : st = 15
 ·have d2 : ((st : Int) == 15) = true := by simp; omega
  have HB := Lib.hid (DAM.out 15 (by simp [*]))
  have CS := Lib.hid (CSE.out { x with st := 15 })
  have OS := Lib.hid (show O.set 0 (.int .i64 15) = oc { x with st := 15 } by rw [HO.out]; rfl)
  obtain ⟨O2, hO2⟩ : ∃ O, O = oc { x with st := 15 } := ⟨_, rfl⟩
  have OL2 := Lib.hid (show O2.length = 3 by rw [hO2]; rfl)
  rw [← hO2] at OS CS
  clear h1 h2 hO2 DAM CSE SAME HO
  go_wp2_with (first | ((with_reducible refine Se.isL (o := ⟨some 20, _, _, _, _, _⟩) ?_); (refine Se.toL rfl (Se.ld (o := ⟨some 20, _, _, _, _, _⟩) hs rfl rfl (Cell.blk 1 rfl R5.out) (by kernel_rfl) ?_))) | ((with_reducible refine Se.isL (o := ⟨some 23, _, _, _, _, _⟩) ?_); (refine Se.toL rfl (Se.ldw (o := ⟨some 23, _, _, _, _, _⟩) hs rfl rfl ((HRX.out.app [_, _])) ((by rw [OL.out]; kernel_rfl)) (by kernel_rfl) ?_))) | ((with_reducible refine Se.isL (o := ⟨some 8, _, _, _, _, _⟩) ?_); (refine Se.toL rfl (Se.al (o := ⟨some 8, _, _, _, _, _⟩) hs rfl (zRo) ?_); clear hs; rintro w g8 - hs)) | ((with_reducible refine Se.isL (o := ⟨none, Op.store 67 _ _, _, _, _, _⟩) ?_); (refine Se.toL rfl (Se.sow 0 hs rfl rfl rfl rfl (OO.out) ((by rw [OL.out]; kernel_rfl)) ((by rw [OL.out]; rfl)) ?_); clear hs; intro w hs; try simp only [List.cons_append, List.nil_append, List.set_cons_zero] at hs)) | ((with_reducible refine Se.isL (o := ⟨some 27, _, _, _, _, _⟩) ?_); (refine Se.toL rfl (Se.ld (o := ⟨some 27, _, _, _, _, _⟩) hs rfl rfl (Cell.blk 0 rfl O0.out) (by kernel_rfl) ?_))) | ((with_reducible refine Se.isL (o := ⟨some 32, _, _, _, _, _⟩) ?_); (refine Se.toL rfl (Se.ld (o := ⟨some 32, _, _, _, _, _⟩) hs rfl rfl (Cell.blk 0 rfl O0.out) (by kernel_rfl) ?_))) | ((with_reducible refine Se.isL (o := ⟨none, _, _, _, _, _⟩) ?_); ((first | refine Se.toL rfl (Se.soq 0 (v := .int _ _) hs rfl rfl rfl rfl rfl (by kernel_rfl) ((by rw [OL.out]; decide)) (OS.out) ?_) | refine Se.toL rfl (Se.soq 0 (v := .bool _) hs rfl rfl rfl rfl rfl (by kernel_rfl) ((by rw [OL.out]; decide)) (OS.out) ?_) | refine Se.toL rfl (Se.soq 0 (v := .slice _ _ _) hs rfl rfl rfl rfl rfl (by kernel_rfl) ((by rw [OL.out]; decide)) (OS.out) ?_) | refine Se.toL rfl (Se.soq 0 (v := .pointer _) hs rfl rfl rfl rfl rfl (by kernel_rfl) ((by rw [OL.out]; decide)) (OS.out) ?_) | refine Se.toL rfl (Se.soq 0 (v := .string _) hs rfl rfl rfl rfl rfl (by kernel_rfl) ((by rw [OL.out]; decide)) (OS.out) ?_) | refine Se.toL rfl (Se.soq 0 (v := .map _) hs rfl rfl rfl rfl rfl (by kernel_rfl) ((by rw [OL.out]; decide)) (OS.out) ?_) | refine Se.toL rfl (Se.soq 0 (v := .func _ _ _) hs rfl rfl rfl rfl rfl (by kernel_rfl) ((by rw [OL.out]; decide)) (OS.out) ?_) | refine Se.toL rfl (Se.soq 0 (v := .nilFunc) hs rfl rfl rfl rfl rfl (by kernel_rfl) ((by rw [OL.out]; decide)) (OS.out) ?_)); clear hs; intro w hs; try simp only [List.cons_append, List.nil_append, List.set_cons_zero] at hs)) | ((with_reducible refine Se.isL (o := ⟨some 37, _, _, _, _, _⟩) ?_); (refine Se.toL rfl (Se.ldw (o := ⟨some 37, _, _, _, _, _⟩) hs rfl rfl ((Reads.blk 2 rfl)) ((by rw [RLL.out]; kernel_rfl)) (by kernel_rfl) ?_))) | ((with_reducible refine Se.isL (o := ⟨some 39, _, _, _, _, _⟩) ?_); (refine Se.toL rfl (Se.ldw (o := ⟨some 39, _, _, _, _, _⟩) hs rfl rfl ((Reads.blk 0 rfl)) ((by rw [OL2.out]; kernel_rfl)) (by kernel_rfl) ?_))) | ((with_reducible refine Se.isL (o := ⟨none, Op.store 43 _ _, _, _, _, _⟩) ?_); (refine Se.toL rfl (Se.sow 2 hs rfl rfl rfl rfl (hzn.one) ((by rw [hzn.len]; kernel_rfl)) ((by rw [hzn.len, ZL0.out])) ?_); clear hs; intro w hs; try simp only [List.cons_append, List.nil_append, List.set_cons_zero, List.set_cons_succ] at hs)) | (go_at_call 84; refine Calls.mono (CS.out [_, _, _] _ hs) ?_; clear hs; rintro e w ⟨A', ZN, rfl, hzn, hs⟩))
  refine Se.ret hs [.agg ZN.toArray, .int .i64 0] rfl ⟨Se.resRow rfl (Reads.blk 2 rfl) (by kernel_rfl) (by rw [hzn.len] <;> kernel_rfl), rfl, trivial⟩ (by simp) rfl ?_
  refine ⟨trivial, ?_⟩
  rw [HB.out]
  exact ⟨A', ZN, rfl, hzn, hs.sub (List.Sublist.cons_cons _ (.cons _ (.cons _ (.cons _ (List.Sublist.refl _)))))⟩
 ·have d2 : ((st : Int) == 15) = false := by simp; omega
  have HB := Lib.hid (DAM.out 13 (by simp [*]))
  have CS := Lib.hid (CSE.out { x with st := 13 })
  have OS := Lib.hid (show O.set 0 (.int .i64 13) = oc { x with st := 13 } by rw [HO.out]; rfl)
  obtain ⟨O2, hO2⟩ : ∃ O, O = oc { x with st := 13 } := ⟨_, rfl⟩
  have OL2 := Lib.hid (show O2.length = 3 by rw [hO2]; rfl)
  rw [← hO2] at OS CS
  clear h1 h2 hO2 DAM CSE SAME HO
  go_wp2_with (first | ((with_reducible refine Se.isL (o := ⟨some 20, _, _, _, _, _⟩) ?_); (refine Se.toL rfl (Se.ld (o := ⟨some 20, _, _, _, _, _⟩) hs rfl rfl (Cell.blk 1 rfl R5.out) (by kernel_rfl) ?_))) | ((with_reducible refine Se.isL (o := ⟨some 23, _, _, _, _, _⟩) ?_); (refine Se.toL rfl (Se.ldw (o := ⟨some 23, _, _, _, _, _⟩) hs rfl rfl ((HRX.out.app [_, _])) ((by rw [OL.out]; kernel_rfl)) (by kernel_rfl) ?_))) | ((with_reducible refine Se.isL (o := ⟨some 8, _, _, _, _, _⟩) ?_); (refine Se.toL rfl (Se.al (o := ⟨some 8, _, _, _, _, _⟩) hs rfl (zRo) ?_); clear hs; rintro w g8 - hs)) | ((with_reducible refine Se.isL (o := ⟨none, Op.store 67 _ _, _, _, _, _⟩) ?_); (refine Se.toL rfl (Se.sow 0 hs rfl rfl rfl rfl (OO.out) ((by rw [OL.out]; kernel_rfl)) ((by rw [OL.out]; rfl)) ?_); clear hs; intro w hs; try simp only [List.cons_append, List.nil_append, List.set_cons_zero] at hs)) | ((with_reducible refine Se.isL (o := ⟨some 27, _, _, _, _, _⟩) ?_); (refine Se.toL rfl (Se.ld (o := ⟨some 27, _, _, _, _, _⟩) hs rfl rfl (Cell.blk 0 rfl O0.out) (by kernel_rfl) ?_))) | ((with_reducible refine Se.isL (o := ⟨some 32, _, _, _, _, _⟩) ?_); (refine Se.toL rfl (Se.ld (o := ⟨some 32, _, _, _, _, _⟩) hs rfl rfl (Cell.blk 0 rfl O0.out) (by kernel_rfl) ?_))) | ((with_reducible refine Se.isL (o := ⟨none, _, _, _, _, _⟩) ?_); ((first | refine Se.toL rfl (Se.soq 0 (v := .int _ _) hs rfl rfl rfl rfl rfl (by kernel_rfl) ((by rw [OL.out]; decide)) (OS.out) ?_) | refine Se.toL rfl (Se.soq 0 (v := .bool _) hs rfl rfl rfl rfl rfl (by kernel_rfl) ((by rw [OL.out]; decide)) (OS.out) ?_) | refine Se.toL rfl (Se.soq 0 (v := .slice _ _ _) hs rfl rfl rfl rfl rfl (by kernel_rfl) ((by rw [OL.out]; decide)) (OS.out) ?_) | refine Se.toL rfl (Se.soq 0 (v := .pointer _) hs rfl rfl rfl rfl rfl (by kernel_rfl) ((by rw [OL.out]; decide)) (OS.out) ?_) | refine Se.toL rfl (Se.soq 0 (v := .string _) hs rfl rfl rfl rfl rfl (by kernel_rfl) ((by rw [OL.out]; decide)) (OS.out) ?_) | refine Se.toL rfl (Se.soq 0 (v := .map _) hs rfl rfl rfl rfl rfl (by kernel_rfl) ((by rw [OL.out]; decide)) (OS.out) ?_) | refine Se.toL rfl (Se.soq 0 (v := .func _ _ _) hs rfl rfl rfl rfl rfl (by kernel_rfl) ((by rw [OL.out]; decide)) (OS.out) ?_) | refine Se.toL rfl (Se.soq 0 (v := .nilFunc) hs rfl rfl rfl rfl rfl (by kernel_rfl) ((by rw [OL.out]; decide)) (OS.out) ?_)); clear hs; intro w hs; try simp only [List.cons_append, List.nil_append, List.set_cons_zero] at hs)) | ((with_reducible refine Se.isL (o := ⟨some 37, _, _, _, _, _⟩) ?_); (refine Se.toL rfl (Se.ldw (o := ⟨some 37, _, _, _, _, _⟩) hs rfl rfl ((Reads.blk 2 rfl)) ((by rw [RLL.out]; kernel_rfl)) (by kernel_rfl) ?_))) | ((with_reducible refine Se.isL (o := ⟨some 39, _, _, _, _, _⟩) ?_); (refine Se.toL rfl (Se.ldw (o := ⟨some 39, _, _, _, _, _⟩) hs rfl rfl ((Reads.blk 0 rfl)) ((by rw [OL2.out]; kernel_rfl)) (by kernel_rfl) ?_))) | ((with_reducible refine Se.isL (o := ⟨none, Op.store 43 _ _, _, _, _, _⟩) ?_); (refine Se.toL rfl (Se.sow 2 hs rfl rfl rfl rfl (hzn.one) ((by rw [hzn.len]; kernel_rfl)) ((by rw [hzn.len, ZL0.out])) ?_); clear hs; intro w hs; try simp only [List.cons_append, List.nil_append, List.set_cons_zero, List.set_cons_succ] at hs)) | (go_at_call 84; refine Calls.mono (CS.out [_, _, _] _ hs) ?_; clear hs; rintro e w ⟨A', ZN, rfl, hzn, hs⟩))
  refine Se.ret hs [.agg ZN.toArray, .int .i64 0] rfl ⟨Se.resRow rfl (Reads.blk 2 rfl) (by kernel_rfl) (by rw [hzn.len] <;> kernel_rfl), rfl, trivial⟩ (by simp) rfl ?_
  refine ⟨trivial, ?_⟩
  rw [HB.out]
  exact ⟨A', ZN, rfl, hzn, hs.sub (List.Sublist.cons_cons _ (.cons _ (.cons _ (.cons _ (List.Sublist.refl _)))))⟩
theorem rzone_st {z : Zs} {A : Option Addr} {ZI : List Value} (hs : St w0 X L w) (hm : At.rd A (ocs z.l) ∈ L) (ho : OkZ z) (hz : RZ z A ZI) {i : Nat} (hi : i < z.l.length) :
  Calls Try.prog 20 #[.agg ZI.toArray, .int .i64 (i : Int)] w fun e w' => e = .returned (.agg (zcV z i).toArray) ∧ St w0 X L w' := by
 obtain ⟨cc, hRZ⟩ := hz
 obtain ⟨ga, oa, rfl, _, _⟩ := (hs.hold _ hm).cells (ocs_ne (by rw [ho.1]; exact ho.2.1))
 obtain ⟨RL, hRL⟩ : ∃ RL, RL = ZI := ⟨_, rfl⟩
 rw [← hRL]
 rw [hRZ] at hRL
 obtain ⟨k, hk⟩ : ∃ n, n = z.l.length := ⟨_, rfl⟩
 have hk1 : k ≤ 4096 := by rw [hk, ho.1]; exact ho.2.2.1
 have hk0 : 1 ≤ k := by rw [hk, ho.1]; exact ho.2.1
 have RLL := Lib.hid (show RL.length = 7 by rw [hRL]; rfl)
 have RLO := Lib.hid (show ∀ v ∈ RL, v.oneCell' = true by rw [hRL]; exact zcl_one _ _ _)
 have R5 := Lib.hid (show RL[5]? = some (.slice (some ⟨ga, oa, none⟩) k cc) by rw [hRL, hk]; rfl)
 obtain ⟨sz, hsz⟩ : ∃ n, n = z.c.sz := ⟨_, rfl⟩
 have R1 := Lib.hid (show RL[1]? = some (iv sz) by rw [hRL, hsz]; rfl)
 obtain ⟨cap, hcap⟩ : ∃ n, n = z.c.cap := ⟨_, rfl⟩
 have R2 := Lib.hid (show RL[2]? = some (iv cap) by rw [hRL, hcap]; rfl)
 obtain ⟨l, hl⟩ : ∃ l, l = z.l := ⟨_, rfl⟩
 obtain ⟨x, hx⟩ : ∃ x, x = l.getD i dz := ⟨_, rfl⟩
 obtain ⟨st, hst⟩ : ∃ p, p = x.st := ⟨_, rfl⟩
 obtain ⟨p, hp⟩ : ∃ p, p = x.p := ⟨_, rfl⟩
 have hil : i < l.length := by rw [hl]; exact hi
 have hmr : Reads L (some ⟨ga, oa, none⟩) (ocs l) := by rw [hl]; exact Reads.rdm hm
 have C0 := Lib.hid (show Cell L ga (oa + i * 3) (iv st) from rcell hmr hil 0 (by decide) (by rw [hst, hx]; rfl))
 have C1 := Lib.hid (show Cell L ga (oa + i * 3 + 1) (iv p) from rcell hmr hil 1 (by decide) (by rw [hp, hx]; rfl))
 have HRX := Lib.hid (show Reads L (some ⟨ga, oa + i * 3, none⟩) (oc x) by rw [hx, getD_get hil]; exact row_at hmr hil)
 have hik : (i : Int) < (k : Int) := by rw [hk]; omega
 have hsz2 : sz ≤ 65536 := by rw [hsz]; exact ho.2.2.2.2.1
 have hcap1 : cap ≤ 65536 := by rw [hcap]; have := ho.2.2.2.2.2.2.1; have := ho.2.2.2.2.1; omega
 have hpc : p ≤ cap := by rw [hp, hcap, hx, hl]; exact (ho.2.2.2.2.2.2.2.2.2 _ (getD_mem hi)).2.2.1
 obtain ⟨sta, hsta⟩ : ∃ s, s = i * sz := ⟨_, rfl⟩
 have hsta1 : sta ≤ 268435456 := by rw [hsta]; exact (Nat.mul_le_mul (show i ≤ 4096 by omega) hsz2 : i * sz ≤ 4096 * 65536)
 obtain ⟨pt, hpt⟩ : ∃ s, s = sta + p := ⟨_, rfl⟩
 have w1 : IntKind.i64.wrap ((i : Int) * (sz : Int)) = (sta : Int) := by rw [← Int.natCast_mul, ← hsta]; exact IntWalk.i64_in _ (by omega)
 have w2 : IntKind.i64.wrap ((sta : Int) + (p : Int)) = (pt : Int) := by rw [← Int.natCast_add, ← hpt]; exact IntWalk.i64_in _ (by omega)
 have HZ : Hid (zcV z i = [iv st, iv sta, iv cap, iv pt]) := Lib.hid (by unfold zcV; rw [hst, hx, hl, hpt, hsta, hsz, hcap, hp, hx, hl])
 obtain ⟨Z, hZ⟩ : ∃ Z, Z = zcV z i := ⟨_, rfl⟩
 have ZE := Lib.hid (show Z = [iv st, iv sta, iv cap, iv pt] by rw [hZ, HZ.out])
 have ZL := Lib.hid (show Z.length = 4 by rw [ZE.out]; rfl)
 have ZO := Lib.hid (show ∀ v ∈ Z, v.oneCell' = true by rw [ZE.out]; simp [Value.oneCell'])
 have BP : Hid (∀ w : World, (Instr.build 37 #[(0, iv st), (1, iv sta), (2, iv cap), (3, iv pt)]).run Try.prog w = .ok (.agg Z.toArray) w) := Lib.hid (fun w => by rw [ZE.out]; kernel_rfl)
 rw [← hZ]
 clear hRL hRZ hk ho hm hl hx hst hp hil hmr hi hsz hcap hsta hpt HZ hZ
 go_enter Try.func20, Try.ntmps20
 go_upto_region 1 with (first | ((with_reducible refine Se.isL (o := ⟨some 4, _, _, _, _, _⟩) ?_); (refine Se.toL rfl (Se.al (o := ⟨some 4, _, _, _, _, _⟩) hs rfl (zZo) ?_); clear hs; rintro w g4 - hs)) | ((first | with_reducible refine Se.ab hs ?_ | with_reducible refine Se.abc hs ?_); clear hs; (first | (generalize w.heap.size = g2; intro w hs))))
 refine Ch.region' 27 (fun wx => Blk wx g2 RL 43 ∧ wx.cell? ⟨ga, oa + i * 3, none⟩ = some (iv st) ∧ wx.cell? ⟨ga, oa + i * 3 + 1, none⟩ = some (iv p)) (fun  | _ => false) (by kernel_rfl) (by decide +kernel) (⟨hs.drew.hold (.blk g2 43 RL) (by simp), (capp [_, _] C0.out) _ hs.drew.hold, (capp [_, _] C1.out) _ hs.drew.hold⟩) ?_
 replace hs := hs.drew
 generalize w.drew = w at hs ⊢
 change Ch.CW _ _ _ _ _ [0, 1, 2, 3, 4, 5, 6, 7, 8, 9, 10, 11, 12, 13, 14, 15, 16, 17, 18, 19, 20, 21, 22, 23, 24, 25, 26] _ _
 iterate 26 ((first | (refine Ch.pure (v := ?_) (by rfl) (by rfl) (by rfl) (fun wx hS => ?_) ?_; rotate_left; (focus (go_simp; (first | done | with_reducible rfl)))) | refine Ch.pure (v := _) (by rfl) (by rfl) (by rfl) (fun wx hS => Se.xl rfl rfl (by rw [hS.1.cell]; exact R5.out) (by decide +kernel)) ?_ | refine Ch.pure (v := _) (by rfl) (by rfl) (by rfl) (fun wx hS => Se.xl rfl rfl (by rw [hS.1.cell]; exact R1.out) (by decide +kernel)) ?_ | refine Ch.pure (v := _) (by rfl) (by rfl) (by rfl) (fun wx hS => Se.xl rfl rfl (by rw [hS.1.cell]; exact R2.out) (by decide +kernel)) ?_ | refine Ch.pure (v := _) (by rfl) (by rfl) (by rfl) (fun wx hS => Se.xl rfl rfl hS.2.1 (by decide +kernel)) ?_ | refine Ch.pure (v := _) (by rfl) (by rfl) (by rfl) (fun wx hS => Se.xl rfl rfl hS.2.2 (by decide +kernel)) ?_); (try simp only [Act.put, List.setIfInBounds_toArray, List.set_cons_zero, List.set_cons_succ]))
 refine Ch.pure (v := .agg Z.toArray) (by rfl) (by rfl) (by rfl) (fun wx hS => xbd rfl (vs := [(0, iv st), (1, iv sta), (2, iv cap), (3, iv pt)]) rfl (BP.out _)) ?_
 (try simp only [Act.put, List.setIfInBounds_toArray, List.set_cons_zero, List.set_cons_succ])
 refine Ch.done ?_
 try simp only [List.drop_succ_cons, List.drop_zero]
 go_wp2_with (first | ((with_reducible refine Se.isL (o := ⟨none, _, _, _, _, _⟩) ?_); (refine Se.toL rfl (Se.sow 0 hs rfl rfl rfl rfl (ZO.out) ((by rw [ZL.out]; kernel_rfl)) ((by rw [ZL.out]; rfl)) ?_); clear hs; intro w hs; try simp only [List.cons_append, List.nil_append, List.set_cons_zero] at hs)))
 refine bodyPost_ret (v := .agg Z.toArray) ?_ rfl ?_
 ·exact run_results_row hs rfl rfl (Reads.blk 0 rfl) (by kernel_rfl) (by rw [ZL.out] <;> kernel_rfl)
 ·exact ⟨rfl, hs.drop.drop⟩
theorem eval_beq (s n : Nat) : ((s : Int) == (n : Int)) = (s == n) := by rw [Bool.eq_iff_iff]; simp only [beq_iff_eq]; omega
theorem rconcerns_v (hs : St w0 X L w) (a s : Nat) (ha : 1 ≤ a ∧ a ≤ 5) : Calls Try.prog 85 #[iv a, iv s] w fun e w' => e = .returned (.bool (concE a s)) ∧ St w0 X L w' := by
 have CO := Lib.hid (fun (w : World) (hs : St w0 X L w) => ropen_v hs s)
 have CA := Lib.hid (fun (w : World) (hs : St w0 X L w) => ractive_v hs s)
 have hc : a = 1 ∨ a = 2 ∨ a = 3 ∨ a = 4 ∨ a = 5 := by omega
 obtain ⟨b1, hb1⟩ : ∃ b, b = opn s := ⟨_, rfl⟩
 obtain ⟨b2, hb2⟩ : ∃ b, b = atv s := ⟨_, rfl⟩
 have HB1 := Lib.hid hb1
 have HB2 := Lib.hid hb2
 rw [← hb1] at CO
 rw [← hb2] at CA
 clear ha hb1 hb2
 rcases hc with rfl | rfl | rfl | rfl | rfl
 ·go_enter Try.func85, Try.ntmps85
  go_wp2_with (first | (go_at_call 78; refine Calls.mono (CO.out _ hs) ?_; clear hs; rintro e w ⟨rfl, hs⟩))
  go_ret
  exact ⟨by simp only [concE, if_pos rfl, ← HB1.out]; rfl, hs⟩
 ·go_enter Try.func85, Try.ntmps85
  go_wp2_with (first | (go_at_call 79; refine Calls.mono (CA.out _ hs) ?_; clear hs; rintro e w ⟨rfl, hs⟩))
  go_ret
  exact ⟨by rw [HB2.out]; rfl, hs⟩
 ·go_enter Try.func85, Try.ntmps85
  go_wp2_with fail
  go_ret
  exact ⟨by simp [concE]; exact eval_beq s 4, hs⟩
 ·cases b2 with
  | true =>
   go_enter Try.func85, Try.ntmps85
   go_wp2_with (first | (go_at_call 79; refine Calls.mono (CA.out _ hs) ?_; clear hs; rintro e w ⟨rfl, hs⟩))
   go_ret
   exact ⟨by simp [concE, ← HB2.out], hs⟩
  | false =>
   go_enter Try.func85, Try.ntmps85
   go_wp2_with (first | (go_at_call 79; refine Calls.mono (CA.out _ hs) ?_; clear hs; rintro e w ⟨rfl, hs⟩))
   go_ret
   exact ⟨by simp [concE, ← HB2.out]; exact eval_beq s 14, hs⟩
 ·go_enter Try.func85, Try.ntmps85
  go_wp2_with fail
  go_ret
  exact ⟨by simp [concE]; exact eval_beq s 13, hs⟩
def pzE (x : Zn) : Zn := if opn x.st = true then closeZ x else x
def pwJ (z : Zs) (j : Nat) : Zs := { z with l := (z.l.take j).map pzE ++ z.l.drop j }
theorem pwJ_len (z : Zs) (j : Nat) (h : j ≤ z.l.length) : (pwJ z j).l.length = z.l.length := by
 simp [pwJ]; omega
theorem pwJ_at (z : Zs) (j : Nat) (h : j < z.l.length) : (pwJ z j).l.getD j dz = z.l.getD j dz := by
 have h2 : j < (pwJ z j).l.length := by rw [pwJ_len z j (by omega)]; exact h
 rw [getD_get h2, getD_get h]
 simp only [pwJ]
 rw [List.getElem_append_right (by simp; omega)]
 simp [List.getElem_drop, Nat.min_eq_left (Nat.le_of_lt h)]
theorem pwJ_succ (z : Zs) (j : Nat) (h : j < z.l.length) : pwJ z (j + 1) = putS (pwJ z j) j (pzE (z.l.getD j dz)) := by
 unfold pwJ putS
 dsimp only
 congr 1
 rw [List.set_append_right _ _ (by simp; omega)]
 simp only [List.length_map, List.length_take, Nat.min_eq_left (Nat.le_of_lt h), Nat.sub_self]
 rw [List.take_add_one, List.getElem?_eq_getElem h, Option.toList_some, List.map_append, List.append_assoc, List.map_cons, List.map_nil, List.singleton_append, getD_get h]
 congr 1
 rw [List.drop_eq_getElem_cons h, List.set_cons_zero]
theorem pwJ_same (z : Zs) (j : Nat) (h : j < z.l.length) (ho : opn (z.l.getD j dz).st = false) : pwJ z (j + 1) = pwJ z j := by
 rw [pwJ_succ z j h, pzE, if_neg (by rw [ho]; decide)]
 have h2 : j < (pwJ z j).l.length := by rw [pwJ_len z j (by omega)]; exact h
 unfold putS
 rw [← pwJ_at z j h, getD_get h2, List.set_getElem_self]
theorem pwJ_end (z : Zs) : pwJ z z.l.length = powerE z := by
 unfold pwJ powerE
 rw [List.take_length, List.drop_length, List.append_nil]
 rfl
theorem OkZ.pw {z : Zs} (h : OkZ z) : ∀ (j : Nat), j ≤ z.l.length → OkZ (pwJ z j)
 | 0, _ => by
  have : pwJ z 0 = z := by unfold pwJ; simp
  rw [this]; exact h
 | j + 1, hj => by
  have h2 := h.pw j (by omega)
  have hm := h.2.2.2.2.2.2.2.2.2 _ (getD_mem (show j < z.l.length by omega))
  rw [pwJ_succ z j (by omega)]
  refine h2.set j (pwJ z j).w (Nat.le_refl _) (x := pzE (z.l.getD j dz)) ?_
  unfold pzE
  split
  ·unfold closeZ
   dsimp only
   refine ⟨?_, ?_, hm.2.2.1, hm.2.2.2⟩ <;> split <;> omega
  ·exact hm
theorem rpower_st {z : Zs} {A : Option Addr} {ZI : List Value} (hs : St w0 X L w) (hm : At.rd A (ocs z.l) ∈ L) (ho : OkZ z) (hz : RZ z A ZI) :
  Calls Try.prog 53 #[.agg ZI.toArray] w fun e w' => True ∧ Q1 w0 X L (powerE z) e w' := by
 have hk0 : 1 ≤ z.l.length := by rw [ho.1]; exact ho.2.1
 have hk1 : z.l.length ≤ 4096 := by rw [ho.1]; exact ho.2.2.1
 obtain ⟨k, hk⟩ : ∃ n, n = z.l.length := ⟨_, rfl⟩
 rw [← hk] at hk0 hk1
 obtain ⟨RZ0, hRZ0⟩ : ∃ R, R = zcl { c := ⟨0, 0, 0, 0, 0⟩, l := [] } none 0 := ⟨_, rfl⟩
 have ZL0 := Lib.hid (show RZ0.length = 7 by rw [hRZ0]; rfl)
 have zRz' := Lib.hid zRz
 rw [← hRZ0] at zRz'
 clear hRZ0
 have HO := Lib.hid ho
 have HK := Lib.hid hk
 have HEND := Lib.hid (show pwJ z k = powerE z by rw [hk]; exact pwJ_end z)
 have HZ0 := Lib.hid (show RZ (pwJ z 0) A ZI by rw [show pwJ z 0 = z by unfold pwJ; simp]; exact hz)
 have hs0 : St w0 X (.rd A (ocs (pwJ z 0).l) :: L) w := by rw [show pwJ z 0 = z by unfold pwJ; simp]; exact hs.dup hm
 have IL := Lib.hid hz.len
 have IO := Lib.hid hz.one
 clear hs hm hz ho hk
 have hs := hs0
 clear hs0
 go_enter Try.func53, Try.ntmps53
 go_wp2_with (first | ((with_reducible refine Se.isL (o := ⟨some 2, _, _, _, _, _⟩) ?_); (refine Se.toL rfl (Se.al (o := ⟨some 2, _, _, _, _, _⟩) hs rfl (zRz'.out) ?_); clear hs; rintro w g2 - hs)) | ((first | with_reducible refine Se.ab hs ?_ | with_reducible refine Se.abc hs ?_); clear hs; (first | (generalize w.heap.size = g1; intro w hs))))
 replace hs := hs.pull 1 rfl
 replace hs := hs.pull 1 rfl
 replace hs := hs.pull 2 rfl
 simp only [List.eraseIdx_cons_succ, List.eraseIdx_cons_zero] at hs
 go_loopg [3] k (fun gh s3 wr => ∃ (j : Nat) (A' : Option Addr) (ZJ : List Value), gh = k - j ∧ j ≤ k ∧ s3 = .int .i64 (j : Int) ∧ Hid (RZ (pwJ z j) A' ZJ) ∧ St w0 X (.rd A' (ocs (pwJ z j).l) :: .blk g2 43 RZ0 :: .blk g1 43 ZJ :: L) wr)
 case atStart => exact ⟨0, A, ZI, rfl, Nat.zero_le _, rfl, HZ0, hs⟩
 case round =>
  clear hs HZ0 IL IO
  rename World => w
  obtain ⟨j, A', ZJ, rfl, hj, rfl, HZ, hs⟩ := hrel
  have HL : Hid ((pwJ z j).l.length = k) := Lib.hid (by rw [pwJ_len z j (by rw [← HK.out]; exact hj), HK.out])
  obtain ⟨ga, oa, rfl, _, _⟩ := (hs.hold _ List.mem_cons_self).cells (ocs_ne (by rw [HL.out]; exact hk0))
  have J5 : ∃ c, ZJ[5]? = some (.slice (some ⟨ga, oa, none⟩) k c) := by
   obtain ⟨c, hc⟩ := HZ.out
   exact ⟨c, by rw [hc, ← HL.out]; rfl⟩
  obtain ⟨c5, hc5⟩ := J5
  have J5 := Lib.hid hc5
  have JL := Lib.hid HZ.out.len
  have JO := Lib.hid HZ.out.one
  clear hc5
  by_cases hlt : j < k
  ·have hlt' : (j : Int) < (k : Int) := by omega
   have hjl : j < z.l.length := by rw [← HK.out]; exact hlt
   obtain ⟨q, hq⟩ : ∃ q, q = pwJ z j := ⟨_, rfl⟩
   have hjq : j < q.l.length := by rw [hq, HL.out]; exact hlt
   obtain ⟨x, hx⟩ : ∃ x, x = z.l.getD j dz := ⟨_, rfl⟩
   have hxq : q.l.getD j dz = x := by rw [hq, pwJ_at z j hjl, hx]
   obtain ⟨st, hst⟩ : ∃ p, p = x.st := ⟨_, rfl⟩
   obtain ⟨p, hp⟩ : ∃ p, p = x.p := ⟨_, rfl⟩
   obtain ⟨rr, hrr⟩ : ∃ p, p = x.r := ⟨_, rfl⟩
   have HR : Hid (∀ M : List At, Reads (.rd (some ⟨ga, oa, none⟩) (ocs q.l) :: M) (some ⟨ga, oa + j * 3, none⟩) [iv st, iv p, iv rr]) := Lib.hid (fun M => by
    have h := row_at (L := .rd (some ⟨ga, oa, none⟩) (ocs q.l) :: M) (Reads.rd 0 rfl) hjq
    rw [← getD_get hjq, hxq] at h
    rw [hst, hp, hrr]
    exact h)
   obtain ⟨b, hb⟩ : ∃ b, b = opn st := ⟨_, rfl⟩
   have CO : Hid (∀ (L : List At) (w : World), St w0 X L w → Calls Try.prog 78 #[iv st] w fun e w' => e = .returned (.bool b) ∧ St w0 X L w') := Lib.hid (fun L w hs => by rw [hb]; exact ropen_v hs st)
   have CS : Hid (∀ (xf : Zn) (M1 M : List At) (w : World), St w0 X (M1 ++ .rd (some ⟨ga, oa, none⟩) (ocs q.l) :: M) w → Calls Try.prog 84 #[.agg ZJ.toArray, .int .i64 (j : Int), .agg (oc xf).toArray] w fun e w' => Q1 w0 X (M1 ++ .rd (some ⟨ga, oa, none⟩) (ocs q.l) :: M) (putS q j xf) e w') := Lib.hid (fun xf M1 M w hs => rset' hs (List.mem_append.2 (.inr List.mem_cons_self)) (by rw [hq]; exact HO.out.pw j (by omega)) (by rw [hq]; exact HZ.out) hjq xf)
   have HS0 := Lib.hid (show b = false → pwJ z (j + 1) = q by rw [hq]; intro h; exact pwJ_same z j hjl (by rw [← hx, ← hst, ← hb, h]))
   have HS1 := Lib.hid (show ∀ xf, b = true → closeZ ⟨st, p, rr⟩ = xf → putS q j xf = pwJ z (j + 1) by
    intro xf h h2
    rw [pwJ_succ z j hjl, ← hq, ← hx, pzE, if_pos (by rw [← hst, ← hb, h]), ← h2, hst, hp, hrr])
   rw [← hq] at hs HZ
   clear hq hjq hx hxq hst hp hrr hb hjl HL
   cases b with
   | false =>
    have HN := Lib.hid (HS0.out rfl)
    clear HS0 HS1 CS
    go_wp2_with (first | ((with_reducible refine Se.isL (o := ⟨some 7, _, _, _, _, _⟩) ?_); (refine Se.toL rfl (Se.ld (o := ⟨some 7, _, _, _, _, _⟩) hs rfl rfl (Cell.blk 2 rfl J5.out) (by kernel_rfl) ?_))) | ((with_reducible refine Se.isL (o := ⟨some 13, _, _, _, _, _⟩) ?_); (refine Se.toL rfl (Se.ld (o := ⟨some 13, _, _, _, _, _⟩) hs rfl rfl (Cell.blk 2 rfl J5.out) (by kernel_rfl) ?_))) | ((with_reducible refine Se.isL (o := ⟨some 16, _, _, _, _, _⟩) ?_); (refine Se.toL rfl (Se.ldw (o := ⟨some 16, _, _, _, _, _⟩) hs rfl rfl ((HR.out _)) ((by kernel_rfl)) (by kernel_rfl) ?_))) | ((with_reducible refine Se.isL (o := ⟨some 4, _, _, _, _, _⟩) ?_); (refine Se.toL rfl (Se.al (o := ⟨some 4, _, _, _, _, _⟩) hs rfl (zRo) ?_); clear hs; rintro w g4 - hs)) | ((with_reducible refine Se.isL (o := ⟨none, Op.store 67 _ _, _, _, _, _⟩) ?_); (refine Se.toL rfl (Se.sow 0 hs rfl rfl rfl rfl ((by simp [Value.oneCell'])) ((by kernel_rfl)) (rfl) ?_); clear hs; intro w hs; try simp only [List.cons_append, List.nil_append, List.set_cons_zero] at hs)) | ((with_reducible refine Se.isL (o := ⟨some 18, _, _, _, _, _⟩) ?_); (refine Se.toL rfl (Se.ld (o := ⟨some 18, _, _, _, _, _⟩) hs rfl rfl (Cell.blk 0 rfl rfl) (by kernel_rfl) ?_))) | (go_at_call 78; refine Calls.mono (CO.out _ _ hs) ?_; clear hs; rintro e w ⟨rfl, hs⟩))
    go_roundg (k - (j + 1))
    case measure => omega
    case rel => exact ⟨j + 1, _, _, rfl, by omega, by go_num, by rw [HN.out]; exact HZ, by rw [HN.out]; exact hs.drop⟩
   | true =>
    by_cases h0 : p = 0
    ·have d0 : ((p : Int) == 0) = true := by simp; omega
     have HN := Lib.hid (HS1.out ⟨1, p, rr⟩ rfl (by unfold closeZ; rw [if_pos h0]))
     have CS2 := Lib.hid (CS.out ⟨1, p, rr⟩)
     clear HS0 HS1 CS h0
     go_wp2_with (first | ((with_reducible refine Se.isL (o := ⟨some 7, _, _, _, _, _⟩) ?_); (refine Se.toL rfl (Se.ld (o := ⟨some 7, _, _, _, _, _⟩) hs rfl rfl (Cell.blk 2 rfl J5.out) (by kernel_rfl) ?_))) | ((with_reducible refine Se.isL (o := ⟨some 13, _, _, _, _, _⟩) ?_); (refine Se.toL rfl (Se.ld (o := ⟨some 13, _, _, _, _, _⟩) hs rfl rfl (Cell.blk 2 rfl J5.out) (by kernel_rfl) ?_))) | ((with_reducible refine Se.isL (o := ⟨some 16, _, _, _, _, _⟩) ?_); (refine Se.toL rfl (Se.ldw (o := ⟨some 16, _, _, _, _, _⟩) hs rfl rfl ((HR.out _)) ((by kernel_rfl)) (by kernel_rfl) ?_))) | ((with_reducible refine Se.isL (o := ⟨some 4, _, _, _, _, _⟩) ?_); (refine Se.toL rfl (Se.al (o := ⟨some 4, _, _, _, _, _⟩) hs rfl (zRo) ?_); clear hs; rintro w g4 - hs)) | ((with_reducible refine Se.isL (o := ⟨none, Op.store 67 _ _, _, _, _, _⟩) ?_); (refine Se.toL rfl (Se.sow 0 hs rfl rfl rfl rfl ((by simp [Value.oneCell'])) ((by kernel_rfl)) (rfl) ?_); clear hs; intro w hs; try simp only [List.cons_append, List.nil_append, List.set_cons_zero] at hs)) | ((with_reducible refine Se.isL (o := ⟨some 18, _, _, _, _, _⟩) ?_); (refine Se.toL rfl (Se.ld (o := ⟨some 18, _, _, _, _, _⟩) hs rfl rfl (Cell.blk 0 rfl rfl) (by kernel_rfl) ?_))) | ((with_reducible refine Se.isL (o := ⟨none, _, _, _, _, _⟩) ?_); ((first | refine Se.toL rfl (Se.so 0 (v := .int _ _) hs rfl rfl rfl rfl rfl (by kernel_rfl) (by simp) ?_) | refine Se.toL rfl (Se.so 0 (v := .bool _) hs rfl rfl rfl rfl rfl (by kernel_rfl) (by simp) ?_) | refine Se.toL rfl (Se.so 0 (v := .slice _ _ _) hs rfl rfl rfl rfl rfl (by kernel_rfl) (by simp) ?_) | refine Se.toL rfl (Se.so 0 (v := .pointer _) hs rfl rfl rfl rfl rfl (by kernel_rfl) (by simp) ?_) | refine Se.toL rfl (Se.so 0 (v := .string _) hs rfl rfl rfl rfl rfl (by kernel_rfl) (by simp) ?_) | refine Se.toL rfl (Se.so 0 (v := .map _) hs rfl rfl rfl rfl rfl (by kernel_rfl) (by simp) ?_) | refine Se.toL rfl (Se.so 0 (v := .func _ _ _) hs rfl rfl rfl rfl rfl (by kernel_rfl) (by simp) ?_) | refine Se.toL rfl (Se.so 0 (v := .nilFunc) hs rfl rfl rfl rfl rfl (by kernel_rfl) (by simp) ?_)); clear hs; intro w hs; try simp only [List.cons_append, List.nil_append, List.set_cons_zero] at hs)) | ((with_reducible refine Se.isL (o := ⟨some 22, _, _, _, _, _⟩) ?_); (refine Se.toL rfl (Se.ld (o := ⟨some 22, _, _, _, _, _⟩) hs rfl rfl (Cell.blk 0 rfl rfl) (by kernel_rfl) ?_))) | ((with_reducible refine Se.isL (o := ⟨some 25, _, _, _, _, _⟩) ?_); (refine Se.toL rfl (Se.ldw (o := ⟨some 25, _, _, _, _, _⟩) hs rfl rfl ((Reads.blk 3 rfl)) ((by rw [JL.out]; kernel_rfl)) (by kernel_rfl) ?_))) | ((with_reducible refine Se.isL (o := ⟨some 27, _, _, _, _, _⟩) ?_); (refine Se.toL rfl (Se.ldw (o := ⟨some 27, _, _, _, _, _⟩) hs rfl rfl ((Reads.blk 0 rfl)) ((by kernel_rfl)) (by kernel_rfl) ?_))) | ((with_reducible refine Se.isL (o := ⟨none, Op.store 43 _ _, _, _, _, _⟩) ?_); (refine Se.toL rfl (Se.sow 4 hs rfl rfl rfl rfl (hzn.one) ((by rw [hzn.len]; kernel_rfl)) ((by rw [hzn.len, JL.out])) ?_); clear hs; intro w hs; try simp only [List.cons_append, List.nil_append, List.set_cons_zero, List.set_cons_succ] at hs)) | (go_at_call 78; refine Calls.mono (CO.out _ _ hs) ?_; clear hs; rintro e w ⟨rfl, hs⟩) | (go_at_call 84; refine Calls.mono (CS2.out [_] _ _ hs) ?_; clear hs; rintro e w ⟨A2, ZN, rfl, hzn, hs⟩))
     go_roundg (k - (j + 1))
     case measure => omega
     case rel => exact ⟨j + 1, A2, ZN, rfl, by omega, by go_num, by rw [← HN.out]; exact Lib.hid hzn, by rw [← HN.out]; exact hs.sub (List.Sublist.cons_cons _ (.cons _ (.cons _ (List.Sublist.refl _))))⟩
    ·have d0 : ((p : Int) == 0) = false := by simp; omega
     have HN := Lib.hid (HS1.out ⟨4, p, rr⟩ rfl (by unfold closeZ; rw [if_neg h0]))
     have CS2 := Lib.hid (CS.out ⟨4, p, rr⟩)
     clear HS0 HS1 CS h0
     go_wp2_with (first | ((with_reducible refine Se.isL (o := ⟨some 7, _, _, _, _, _⟩) ?_); (refine Se.toL rfl (Se.ld (o := ⟨some 7, _, _, _, _, _⟩) hs rfl rfl (Cell.blk 2 rfl J5.out) (by kernel_rfl) ?_))) | ((with_reducible refine Se.isL (o := ⟨some 13, _, _, _, _, _⟩) ?_); (refine Se.toL rfl (Se.ld (o := ⟨some 13, _, _, _, _, _⟩) hs rfl rfl (Cell.blk 2 rfl J5.out) (by kernel_rfl) ?_))) | ((with_reducible refine Se.isL (o := ⟨some 16, _, _, _, _, _⟩) ?_); (refine Se.toL rfl (Se.ldw (o := ⟨some 16, _, _, _, _, _⟩) hs rfl rfl ((HR.out _)) ((by kernel_rfl)) (by kernel_rfl) ?_))) | ((with_reducible refine Se.isL (o := ⟨some 4, _, _, _, _, _⟩) ?_); (refine Se.toL rfl (Se.al (o := ⟨some 4, _, _, _, _, _⟩) hs rfl (zRo) ?_); clear hs; rintro w g4 - hs)) | ((with_reducible refine Se.isL (o := ⟨none, Op.store 67 _ _, _, _, _, _⟩) ?_); (refine Se.toL rfl (Se.sow 0 hs rfl rfl rfl rfl ((by simp [Value.oneCell'])) ((by kernel_rfl)) (rfl) ?_); clear hs; intro w hs; try simp only [List.cons_append, List.nil_append, List.set_cons_zero] at hs)) | ((with_reducible refine Se.isL (o := ⟨some 18, _, _, _, _, _⟩) ?_); (refine Se.toL rfl (Se.ld (o := ⟨some 18, _, _, _, _, _⟩) hs rfl rfl (Cell.blk 0 rfl rfl) (by kernel_rfl) ?_))) | ((with_reducible refine Se.isL (o := ⟨none, _, _, _, _, _⟩) ?_); ((first | refine Se.toL rfl (Se.so 0 (v := .int _ _) hs rfl rfl rfl rfl rfl (by kernel_rfl) (by simp) ?_) | refine Se.toL rfl (Se.so 0 (v := .bool _) hs rfl rfl rfl rfl rfl (by kernel_rfl) (by simp) ?_) | refine Se.toL rfl (Se.so 0 (v := .slice _ _ _) hs rfl rfl rfl rfl rfl (by kernel_rfl) (by simp) ?_) | refine Se.toL rfl (Se.so 0 (v := .pointer _) hs rfl rfl rfl rfl rfl (by kernel_rfl) (by simp) ?_) | refine Se.toL rfl (Se.so 0 (v := .string _) hs rfl rfl rfl rfl rfl (by kernel_rfl) (by simp) ?_) | refine Se.toL rfl (Se.so 0 (v := .map _) hs rfl rfl rfl rfl rfl (by kernel_rfl) (by simp) ?_) | refine Se.toL rfl (Se.so 0 (v := .func _ _ _) hs rfl rfl rfl rfl rfl (by kernel_rfl) (by simp) ?_) | refine Se.toL rfl (Se.so 0 (v := .nilFunc) hs rfl rfl rfl rfl rfl (by kernel_rfl) (by simp) ?_)); clear hs; intro w hs; try simp only [List.cons_append, List.nil_append, List.set_cons_zero] at hs)) | ((with_reducible refine Se.isL (o := ⟨some 22, _, _, _, _, _⟩) ?_); (refine Se.toL rfl (Se.ld (o := ⟨some 22, _, _, _, _, _⟩) hs rfl rfl (Cell.blk 0 rfl rfl) (by kernel_rfl) ?_))) | ((with_reducible refine Se.isL (o := ⟨some 25, _, _, _, _, _⟩) ?_); (refine Se.toL rfl (Se.ldw (o := ⟨some 25, _, _, _, _, _⟩) hs rfl rfl ((Reads.blk 3 rfl)) ((by rw [JL.out]; kernel_rfl)) (by kernel_rfl) ?_))) | ((with_reducible refine Se.isL (o := ⟨some 27, _, _, _, _, _⟩) ?_); (refine Se.toL rfl (Se.ldw (o := ⟨some 27, _, _, _, _, _⟩) hs rfl rfl ((Reads.blk 0 rfl)) ((by kernel_rfl)) (by kernel_rfl) ?_))) | ((with_reducible refine Se.isL (o := ⟨none, Op.store 43 _ _, _, _, _, _⟩) ?_); (refine Se.toL rfl (Se.sow 4 hs rfl rfl rfl rfl (hzn.one) ((by rw [hzn.len]; kernel_rfl)) ((by rw [hzn.len, JL.out])) ?_); clear hs; intro w hs; try simp only [List.cons_append, List.nil_append, List.set_cons_zero, List.set_cons_succ] at hs)) | (go_at_call 78; refine Calls.mono (CO.out _ _ hs) ?_; clear hs; rintro e w ⟨rfl, hs⟩) | (go_at_call 84; refine Calls.mono (CS2.out [_] _ _ hs) ?_; clear hs; rintro e w ⟨A2, ZN, rfl, hzn, hs⟩))
     go_roundg (k - (j + 1))
     case measure => omega
     case rel => exact ⟨j + 1, A2, ZN, rfl, by omega, by go_num, by rw [← HN.out]; exact Lib.hid hzn, by rw [← HN.out]; exact hs.sub (List.Sublist.cons_cons _ (.cons _ (.cons _ (List.Sublist.refl _))))⟩
  ·obtain rfl : j = k := by omega
   rw [HEND.out] at hs HZ
   go_wp2_with (first | ((with_reducible refine Se.isL (o := ⟨some 7, _, _, _, _, _⟩) ?_); (refine Se.toL rfl (Se.ld (o := ⟨some 7, _, _, _, _, _⟩) hs rfl rfl (Cell.blk 2 rfl J5.out) (by kernel_rfl) ?_))) | ((with_reducible refine Se.isL (o := ⟨some 29, _, _, _, _, _⟩) ?_); (refine Se.toL rfl (Se.ldw (o := ⟨some 29, _, _, _, _, _⟩) hs rfl rfl ((Reads.blk 2 rfl)) ((by rw [JL.out]; kernel_rfl)) (by kernel_rfl) ?_))) | ((with_reducible refine Se.isL (o := ⟨none, Op.store 43 _ _, _, _, _, _⟩) ?_); (refine Se.toL rfl (Se.sow 1 hs rfl rfl rfl rfl (JO.out) ((by rw [JL.out]; kernel_rfl)) ((by rw [JL.out, ZL0.out])) ?_); clear hs; intro w hs; try simp only [List.cons_append, List.nil_append, List.set_cons_zero, List.set_cons_succ] at hs)))
   refine bodyPost_ret (v := .agg ZJ.toArray) ?_ rfl ?_
   ·exact run_results_row hs rfl rfl (Reads.blk 1 rfl) (by kernel_rfl) (by rw [JL.out] <;> kernel_rfl)
   ·exact ⟨trivial, _, ZJ, rfl, HZ.out, hs.sub (List.Sublist.cons_cons _ (.cons _ (.cons _ (List.Sublist.refl _))))⟩
end Zo
end Go.Proofs.Ythpgkkfahiglnaa


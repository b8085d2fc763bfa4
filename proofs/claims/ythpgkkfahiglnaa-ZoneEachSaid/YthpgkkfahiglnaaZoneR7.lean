/- Layer 28's reference: Manage. No condition but Go's own limits. Printed by wip/gen_zoner7.py. -/
import Derived.Test.YthpgkkfahiglnaaZoneR5
import Derived.Test.YthpgkkfahiglnaaZoneMan
set_option maxRecDepth 100000
set_option maxHeartbeats 4000000
set_option linter.unusedSimpArgs false
set_option linter.unusedVariables false
namespace Go.Proofs.Ythpgkkfahiglnaa
open Go Go.RowKit
namespace Zo
open Se (St At Reads Cell)
open Li (Rd Blk Fr)
variable {w0 w : World} {X : List Nat} {L : List At}
attribute [local irreducible] Calls
attribute [local go_sem] eql_nil Gd.mv_true Gd.pk_or Gd.pk_and Gd.pk_true Gd.pk_false
theorem rman_bad {z : Zs} {A : Option Addr} {ZI : List Value} (hs : St w0 X L w) (hm : At.rd A (ocs z.l) ∈ L) (ho : OkZ z) (hz : RZ z A ZI) (i a : Int) (hb : i < 0 ∨ z.l.length ≤ i ∨ a < 1 ∨ 5 < a) :
  Calls Try.prog 50 #[.agg ZI.toArray, .int .i64 i, .int .i64 a] w fun e w' => True ∧ QR w0 X L (manageE z i a) e w' := by
 obtain ⟨cc, hRZ⟩ := hz
 obtain ⟨ga, oa, rfl, _, _⟩ := (hs.hold _ hm).cells (ocs_ne (by rw [ho.1]; exact ho.2.1))
 obtain ⟨RL, hRL⟩ : ∃ RL, RL = ZI := ⟨_, rfl⟩
 rw [← hRL]
 rw [hRZ] at hRL
 obtain ⟨k, hk⟩ : ∃ n, n = z.l.length := ⟨_, rfl⟩
 have hk1 : k ≤ 4096 := by rw [hk, ho.1]; exact ho.2.2.1
 have hk0 : 1 ≤ k := by rw [hk, ho.1]; exact ho.2.1
 have RLL := Lib.hid (show RL.length = 7 by rw [hRL]; rfl)
 have RLO := Lib.hid (show ∀ v ∈ RL, v.oneCell' = true by rw [hRL]; exact zcl_one _ _ _)
 have R5 := Lib.hid (show RL[5]? = some (.slice (some ⟨ga, oa, none⟩) k cc) by rw [hRL, hk]; rfl)
 have hzr : RZ z (some ⟨ga, oa, none⟩) RL := ⟨cc, hRL⟩
 have SAME : Hid (∀ c, manageE z i a = (z, c) → ∀ w, St w0 X L w → QR w0 X L (manageE z i a) (.returned (.tuple #[.agg RL.toArray, iv c])) w) := Lib.hid (fun c he w hs => by
  rw [he]
  exact ⟨_, _, rfl, hzr, hs.dup hm⟩)
 obtain ⟨RZ0, hRZ0⟩ : ∃ R, R = zcl { c := ⟨0, 0, 0, 0, 0⟩, l := [] } none 0 := ⟨_, rfl⟩
 have ZL0 := Lib.hid (show RZ0.length = 7 by rw [hRZ0]; rfl)
 have zRz' := Lib.hid zRz
 rw [← hRZ0] at zRz'
 clear hRZ0
 have HB := Lib.hid (show manageE z i a = (z, 2) by unfold manageE; rw [if_pos hb])
 have HBB := Lib.hid (show i < 0 ∨ (k : Int) ≤ i ∨ a < 1 ∨ 5 < a by rw [hk]; exact hb)
 clear hb hRL hRZ hk ho hm hzr
 by_cases h1 : i < 0
 ·have f1 : decide (i < 0) = true := by simpa using h1
  clear h1
  go_enter Try.func50, Try.ntmps50
  go_wp2_with (first | ((with_reducible refine Se.isL (o := ⟨some 6, _, _, _, _, _⟩) ?_); (refine Se.toL rfl (Se.al (o := ⟨some 6, _, _, _, _, _⟩) hs rfl (zRz'.out) ?_); clear hs; rintro w g6 - hs)) | ((with_reducible refine Se.isL (o := ⟨some 30, _, _, _, _, _⟩) ?_); (refine Se.toL rfl (Se.ldw (o := ⟨some 30, _, _, _, _, _⟩) hs rfl rfl ((Reads.blk 1 rfl)) ((by rw [RLL.out]; kernel_rfl)) (by kernel_rfl) ?_))) | ((with_reducible refine Se.isL (o := ⟨none, Op.store 43 _ _, _, _, _, _⟩) ?_); (refine Se.toL rfl (Se.sow 0 hs rfl rfl rfl rfl (RLO.out) ((by rw [RLL.out]; kernel_rfl)) ((by rw [RLL.out, ZL0.out])) ?_); clear hs; intro w hs; try simp only [List.cons_append, List.nil_append, List.set_cons_zero] at hs)) | ((first | with_reducible refine Se.ab hs ?_ | with_reducible refine Se.abc hs ?_); clear hs; (first | (generalize w.heap.size = g3; intro w hs))))
  refine Se.ret hs [.agg RL.toArray, .int .i64 2] rfl ⟨Se.resRow rfl (Reads.blk 0 rfl) (by kernel_rfl) (by rw [RLL.out] <;> kernel_rfl), rfl, trivial⟩ (by simp) rfl ?_
  exact ⟨trivial, SAME.out 2 HB.out _ hs.drop.drop⟩
 have f1 : decide (i < 0) = false := by simpa using h1
 by_cases h2 : (k : Int) ≤ i
 ·have f2 : decide ((k : Int) ≤ i) = true := by simpa using h2
  clear h1 h2
  go_enter Try.func50, Try.ntmps50
  go_wp2_with (first | ((with_reducible refine Se.isL (o := ⟨some 6, _, _, _, _, _⟩) ?_); (refine Se.toL rfl (Se.al (o := ⟨some 6, _, _, _, _, _⟩) hs rfl (zRz'.out) ?_); clear hs; rintro w g6 - hs)) | ((with_reducible refine Se.isL (o := ⟨some 18, _, _, _, _, _⟩) ?_); (refine Se.toL rfl (Se.ld (o := ⟨some 18, _, _, _, _, _⟩) hs rfl rfl (Cell.blk 1 rfl R5.out) (by kernel_rfl) ?_))) | ((with_reducible refine Se.isL (o := ⟨some 30, _, _, _, _, _⟩) ?_); (refine Se.toL rfl (Se.ldw (o := ⟨some 30, _, _, _, _, _⟩) hs rfl rfl ((Reads.blk 1 rfl)) ((by rw [RLL.out]; kernel_rfl)) (by kernel_rfl) ?_))) | ((with_reducible refine Se.isL (o := ⟨none, Op.store 43 _ _, _, _, _, _⟩) ?_); (refine Se.toL rfl (Se.sow 0 hs rfl rfl rfl rfl (RLO.out) ((by rw [RLL.out]; kernel_rfl)) ((by rw [RLL.out, ZL0.out])) ?_); clear hs; intro w hs; try simp only [List.cons_append, List.nil_append, List.set_cons_zero] at hs)) | ((first | with_reducible refine Se.ab hs ?_ | with_reducible refine Se.abc hs ?_); clear hs; (first | (generalize w.heap.size = g3; intro w hs))))
  refine Se.ret hs [.agg RL.toArray, .int .i64 2] rfl ⟨Se.resRow rfl (Reads.blk 0 rfl) (by kernel_rfl) (by rw [RLL.out] <;> kernel_rfl), rfl, trivial⟩ (by simp) rfl ?_
  exact ⟨trivial, SAME.out 2 HB.out _ hs.drop.drop⟩
 have f2 : decide ((k : Int) ≤ i) = false := by simpa using h2
 by_cases h3 : a < 1
 ·have f3 : decide (a < 1) = true := by simpa using h3
  clear h1 h2 h3
  go_enter Try.func50, Try.ntmps50
  go_wp2_with (first | ((with_reducible refine Se.isL (o := ⟨some 6, _, _, _, _, _⟩) ?_); (refine Se.toL rfl (Se.al (o := ⟨some 6, _, _, _, _, _⟩) hs rfl (zRz'.out) ?_); clear hs; rintro w g6 - hs)) | ((with_reducible refine Se.isL (o := ⟨some 18, _, _, _, _, _⟩) ?_); (refine Se.toL rfl (Se.ld (o := ⟨some 18, _, _, _, _, _⟩) hs rfl rfl (Cell.blk 1 rfl R5.out) (by kernel_rfl) ?_))) | ((with_reducible refine Se.isL (o := ⟨some 30, _, _, _, _, _⟩) ?_); (refine Se.toL rfl (Se.ldw (o := ⟨some 30, _, _, _, _, _⟩) hs rfl rfl ((Reads.blk 1 rfl)) ((by rw [RLL.out]; kernel_rfl)) (by kernel_rfl) ?_))) | ((with_reducible refine Se.isL (o := ⟨none, Op.store 43 _ _, _, _, _, _⟩) ?_); (refine Se.toL rfl (Se.sow 0 hs rfl rfl rfl rfl (RLO.out) ((by rw [RLL.out]; kernel_rfl)) ((by rw [RLL.out, ZL0.out])) ?_); clear hs; intro w hs; try simp only [List.cons_append, List.nil_append, List.set_cons_zero] at hs)) | ((first | with_reducible refine Se.ab hs ?_ | with_reducible refine Se.abc hs ?_); clear hs; (first | (generalize w.heap.size = g3; intro w hs))))
  refine Se.ret hs [.agg RL.toArray, .int .i64 2] rfl ⟨Se.resRow rfl (Reads.blk 0 rfl) (by kernel_rfl) (by rw [RLL.out] <;> kernel_rfl), rfl, trivial⟩ (by simp) rfl ?_
  exact ⟨trivial, SAME.out 2 HB.out _ hs.drop.drop⟩
 have f3 : decide (a < 1) = false := by simpa using h3
 have f4 : decide (5 < a) = true := by have := HBB.out; simp; omega
 clear h1 h2 h3
 go_enter Try.func50, Try.ntmps50
 go_wp2_with (first | ((with_reducible refine Se.isL (o := ⟨some 6, _, _, _, _, _⟩) ?_); (refine Se.toL rfl (Se.al (o := ⟨some 6, _, _, _, _, _⟩) hs rfl (zRz'.out) ?_); clear hs; rintro w g6 - hs)) | ((with_reducible refine Se.isL (o := ⟨some 18, _, _, _, _, _⟩) ?_); (refine Se.toL rfl (Se.ld (o := ⟨some 18, _, _, _, _, _⟩) hs rfl rfl (Cell.blk 1 rfl R5.out) (by kernel_rfl) ?_))) | ((with_reducible refine Se.isL (o := ⟨some 30, _, _, _, _, _⟩) ?_); (refine Se.toL rfl (Se.ldw (o := ⟨some 30, _, _, _, _, _⟩) hs rfl rfl ((Reads.blk 1 rfl)) ((by rw [RLL.out]; kernel_rfl)) (by kernel_rfl) ?_))) | ((with_reducible refine Se.isL (o := ⟨none, Op.store 43 _ _, _, _, _, _⟩) ?_); (refine Se.toL rfl (Se.sow 0 hs rfl rfl rfl rfl (RLO.out) ((by rw [RLL.out]; kernel_rfl)) ((by rw [RLL.out, ZL0.out])) ?_); clear hs; intro w hs; try simp only [List.cons_append, List.nil_append, List.set_cons_zero] at hs)) | ((first | with_reducible refine Se.ab hs ?_ | with_reducible refine Se.abc hs ?_); clear hs; (first | (generalize w.heap.size = g3; intro w hs))))
 refine Se.ret hs [.agg RL.toArray, .int .i64 2] rfl ⟨Se.resRow rfl (Reads.blk 0 rfl) (by kernel_rfl) (by rw [RLL.out] <;> kernel_rfl), rfl, trivial⟩ (by simp) rfl ?_
 exact ⟨trivial, SAME.out 2 HB.out _ hs.drop.drop⟩
theorem man8 {c c1 c2 c3 c4 c5 c6 c7 c8 c9 dm a9 a8 a7 a3 a2 : Bool} (h : Hid (c = (c4 || c1))) (h1 : Hid (c1 = (c3 && c2))) (h2 : Hid (c4 = (dm || c5))) (h3 : Hid (c5 = (c9 && c6))) (h4 : Hid (c6 = (c8 || c7))) (h8 : Hid (c8 = a8)) (h7 : Hid (c7 = a7)) (h9 : Hid (c9 = a9)) (h33 : Hid (c3 = a3)) (h22 : Hid (c2 = a2)) : (dm || (a9 && (a8 || a7)) || (a3 && a2)) = c := by
 rw [h.out, h1.out, h2.out, h3.out, h4.out, h8.out, h7.out, h9.out, h33.out, h22.out]
theorem rman1 {z : Zs} {A : Option Addr} {ZI : List Value} (hs : St w0 X L w) (hm : At.rd A (ocs z.l) ∈ L) (ho : OkZ z) (hz : RZ z A ZI) {i : Nat} (hi : i < z.l.length) :
  Calls Try.prog 50 #[.agg ZI.toArray, .int .i64 (i : Int), .int .i64 1] w fun e w' => True ∧ QR w0 X L (actE z i 1) e w' := by
 obtain ⟨cc, hRZ⟩ := hz
 obtain ⟨ga, oa, rfl, _, _⟩ := (hs.hold _ hm).cells (ocs_ne (by rw [ho.1]; exact ho.2.1))
 obtain ⟨RL, hRL⟩ : ∃ RL, RL = ZI := ⟨_, rfl⟩
 rw [← hRL]
 rw [hRZ] at hRL
 obtain ⟨k, hk⟩ : ∃ n, n = z.l.length := ⟨_, rfl⟩
 have hk1 : k ≤ 4096 := by rw [hk, ho.1]; exact ho.2.2.1
 have hk0 : 1 ≤ k := by rw [hk, ho.1]; exact ho.2.1
 have RLL := Lib.hid (show RL.length = 7 by rw [hRL]; rfl)
 have RLO := Lib.hid (show ∀ v ∈ RL, v.oneCell' = true by rw [hRL]; exact zcl_one _ _ _)
 have R5 := Lib.hid (show RL[5]? = some (.slice (some ⟨ga, oa, none⟩) k cc) by rw [hRL, hk]; rfl)
 obtain ⟨cap, hcap⟩ : ∃ n, n = z.c.cap := ⟨_, rfl⟩
 have R2 := Lib.hid (show RL[2]? = some (iv cap) by rw [hRL, hcap]; rfl)
 obtain ⟨l, hl⟩ : ∃ l, l = z.l := ⟨_, rfl⟩
 obtain ⟨x, hx⟩ : ∃ x, x = l.getD i dz := ⟨_, rfl⟩
 obtain ⟨st, hst⟩ : ∃ p, p = x.st := ⟨_, rfl⟩
 obtain ⟨p, hp⟩ : ∃ p, p = x.p := ⟨_, rfl⟩
 have hil : i < l.length := by rw [hl]; exact hi
 have hmr : Reads L (some ⟨ga, oa, none⟩) (ocs l) := by rw [hl]; exact Reads.rdm hm
 have C0 := Lib.hid (show Cell L ga (oa + i * 3) (iv st) from rcell hmr hil 0 (by decide) (by rw [hst, hx]; rfl))
 have C1 := Lib.hid (show Cell L ga (oa + i * 3 + 1) (iv p) from rcell hmr hil 1 (by decide) (by rw [hp, hx]; rfl))
 have HRX := Lib.hid (show Reads L (some ⟨ga, oa + i * 3, none⟩) (oc x) by rw [hx, getD_get hil]; exact row_at hmr hil)
 have hik : (i : Int) < (k : Int) := by rw [hk]; omega
 obtain ⟨rr, hrr⟩ : ∃ p, p = x.r := ⟨_, rfl⟩
 have hzr : RZ z (some ⟨ga, oa, none⟩) RL := ⟨cc, hRL⟩
 have SAME : Hid (∀ c, actE z i 1 = (z, c) → ∀ w, St w0 X L w → QR w0 X L (actE z i 1) (.returned (.tuple #[.agg RL.toArray, iv c])) w) := Lib.hid (fun c he w hs => by
  rw [he]
  exact ⟨_, _, rfl, hzr, hs.dup hm⟩)
 obtain ⟨RZ0, hRZ0⟩ : ∃ R, R = zcl { c := ⟨0, 0, 0, 0, 0⟩, l := [] } none 0 := ⟨_, rfl⟩
 have ZL0 := Lib.hid (show RZ0.length = 7 by rw [hRZ0]; rfl)
 have zRz' := Lib.hid zRz
 rw [← hRZ0] at zRz'
 clear hRZ0
 have hax := actE_x (z := z) (i := i) (a := 1) (x := x) (st := st) (by rw [hx, hl]) hst
 have HX := Lib.hid (show x = ⟨st, p, rr⟩ by rw [hst, hp, hrr])
 have HRX := Lib.hid (show Reads L (some ⟨ga, oa + i * 3, none⟩) [iv st, iv p, iv rr] by have h := HRX.out; rw [HX.out] at h; exact h)
 have CSE : Hid (∀ (xf : Zn) (M : List At) (w : World), St w0 X (M ++ L) w → Calls Try.prog 84 #[.agg RL.toArray, .int .i64 (i : Int), .agg (oc xf).toArray] w fun e w' => Q1 w0 X (M ++ L) (putS z i xf) e w') := Lib.hid (fun xf M w hs => rset' hs (memM hm M) ho hzr hi xf)
 obtain ⟨b, hb⟩ : ∃ b, b = opn st := ⟨_, rfl⟩
 have CO : Hid (∀ (L : List At) (w : World), St w0 X L w → Calls Try.prog 78 #[iv st] w fun e w' => e = .returned (.bool b) ∧ St w0 X L w') := Lib.hid (fun L w hs => by rw [hb]; exact ropen_v hs st)
 have CQ : Hid (∀ (M : List At) (w : World), St w0 X (M ++ L) w → Calls Try.prog 83 #[.agg RL.toArray, .int .i64 (i : Int)] w fun e' w' => True ∧ QR w0 X (M ++ L) (opensE z i) e' w') := Lib.hid (fun M w hs => ropens_st hs (memM hm M) ho hzr hi)
 have HOP := Lib.hid (ho.opens i)
 have HKZ := Lib.hid hk
 have HBO := Lib.hid hb
 have HCAP := Lib.hid hcap
 have HO := Lib.hid ho
 rw [HX.out] at hax
 have HIX := Lib.hid (show z.l.getD i dz = ⟨st, p, rr⟩ by rw [← HX.out, hx, hl])
 have HII := Lib.hid hi
 obtain ⟨dm, hdm⟩ : ∃ b : Bool, b = decide (st = 13 ∨ st = 15) := ⟨_, rfl⟩
 obtain ⟨bd, hbd⟩ : ∃ b : Bool, b = decide (st = 13 ∨ st = 15 ∨ st = 14 ∨ st = 1) := ⟨_, rfl⟩
 have hiff : (st = 13 ∨ st = 15 ∨ st = 14 ∧ (1 = 1 ∨ 1 = 3) ∨ st = 1 ∧ 1 = 1) ↔ (st = 13 ∨ st = 15 ∨ st = 14 ∨ st = 1) := by first | omega | simp
 have BAD : Hid (bd = true → actE z i 1 = (z, 191)) := Lib.hid (fun h => by rw [hbd, decide_eq_true_eq] at h; rw [hax, if_neg (by decide), if_pos (hiff.2 h)])
 have NB : bd = false → ¬ (st = 13 ∨ st = 15 ∨ st = 14 ∧ (1 = 1 ∨ 1 = 3) ∨ st = 1 ∧ 1 = 1) := fun h q => by rw [hbd, decide_eq_false_iff_not] at h; exact h (hiff.1 q)
 have GOOD : Hid (∀ xf : Zn, (bd = false ∧ xf = ⟨if p = 0 then 1 else 4, p, rr⟩) → actE z i 1 = (putS z i xf, 0)) := Lib.hid (fun xf h => by rw [hax, if_neg (by decide), if_neg (NB h.1), if_neg (by decide), if_pos rfl, h.2]; rfl)
 have HDM := Lib.hid hdm
 have HBD := Lib.hid hbd
 clear hbd NB hiff hax hdm hb hRL hRZ hk hcap ho hm hzr hl hx hst hp hrr hil hmr hi
 have v1 : decide ((i : Int) < 0) = false := by simp
 have v2 : decide ((k : Int) ≤ (i : Int)) = false := by simp; omega
 go_enter Try.func50, Try.ntmps50
 go_upto_region 4 with (first | ((with_reducible refine Se.isL (o := ⟨some 6, _, _, _, _, _⟩) ?_); (refine Se.toL rfl (Se.al (o := ⟨some 6, _, _, _, _, _⟩) hs rfl (zRz'.out) ?_); clear hs; rintro w g6 - hs)) | ((with_reducible refine Se.isL (o := ⟨some 18, _, _, _, _, _⟩) ?_); (refine Se.toL rfl (Se.ld (o := ⟨some 18, _, _, _, _, _⟩) hs rfl rfl (Cell.blk 1 rfl R5.out) (by kernel_rfl) ?_))) | ((with_reducible refine Se.isL (o := ⟨some 32, _, _, _, _, _⟩) ?_); (refine Se.toL rfl (Se.ld (o := ⟨some 32, _, _, _, _, _⟩) hs rfl rfl (Cell.blk 1 rfl R5.out) (by kernel_rfl) ?_))) | ((with_reducible refine Se.isL (o := ⟨some 35, _, _, _, _, _⟩) ?_); (refine Se.toL rfl (Se.ldw (o := ⟨some 35, _, _, _, _, _⟩) hs rfl rfl ((HRX.out.app [_, _])) ((by kernel_rfl)) (by kernel_rfl) ?_))) | ((with_reducible refine Se.isL (o := ⟨some 8, _, _, _, _, _⟩) ?_); (refine Se.toL rfl (Se.al (o := ⟨some 8, _, _, _, _, _⟩) hs rfl (zRo) ?_); clear hs; rintro w g8 - hs)) | ((with_reducible refine Se.isL (o := ⟨none, Op.store 67 _ _, _, _, _, _⟩) ?_); (refine Se.toL rfl (Se.sow 0 hs rfl rfl rfl rfl ((by simp [Value.oneCell'])) ((by kernel_rfl)) (rfl) ?_); clear hs; intro w hs; try simp only [List.cons_append, List.nil_append, List.set_cons_zero] at hs)) | ((first | with_reducible refine Se.ab hs ?_ | with_reducible refine Se.abc hs ?_); clear hs; (first | (generalize w.heap.size = g3; intro w hs))))
 clear v1 v2
 refine Gd.plain 9 (fun wx => Blk wx g8 [iv st, iv p, iv rr] 67) (fun  | _ => false) rfl (hs.hold (.blk g8 67 [iv st, iv p, iv rr]) (by simp)) ?_
 change Ch.CW _ _ _ _ _ [0, 1, 2, 3, 4, 5, 6, 7, 8] _ _
 iterate 9 (refine Gd.look (by rfl) ?_; (first | ((with_reducible refine Gd.isLoad0 ?_); first | (refine Gd.qp (v := _) (by rfl) (by rfl) (fun wx hS => Se.xl (by rfl) (by rfl) (by rw [(hS).cell]; rfl) (by decide +kernel)) ?_)) | ((with_reducible refine Gd.isLoad1 ?_); first | (refine Gd.gp (v := ?_) (by rfl) (by first | exact Gd.want_t rfl rfl rfl | exact Gd.want_f rfl rfl rfl | exact Gd.want_mt rfl rfl rfl | exact Gd.want_mf rfl rfl rfl) ?_ ?_; rotate_left; (focus ((intro hb; have hb0 := hb; (try simp only [Bool.and_eq_true] at hb)); intro wx hS; exact Se.xl (by rfl) (by exact Gd.mv_of hb0) (by rw [(hS).cell]; rfl) (by decide +kernel)))) | (refine Gd.gp (v := ?_) (by rfl) (by first | exact Gd.want_t rfl rfl rfl | exact Gd.want_f rfl rfl rfl | exact Gd.want_mt rfl rfl rfl | exact Gd.want_mf rfl rfl rfl) ?_ ?_; rotate_left; (focus ((intro hb; have hb0 := hb; (try simp only [Bool.and_eq_true] at hb)); intro wx hS; exact Se.xl (by rfl) (by rfl) (by rw [(hS).cell]; rfl) (by decide +kernel))))) | ((with_reducible refine Gd.isPick0 ?_); refine Gd.qpick (b := _) (v := ?_) (e := ?_) (by rfl) (by rfl) (by rfl) (by rfl) ?_ ?_ ?_; rotate_left 2; (focus (go_simp; (first | done | with_reducible rfl))); (focus (with_reducible rfl)); (intro _ _)) | ((with_reducible refine Gd.isPick1 ?_); refine Gd.gpick (b := ?_) (v := ?_) (e := ?_) (by rfl) (by rfl) (by first | exact Gd.want_t rfl rfl rfl | exact Gd.want_f rfl rfl rfl | exact Gd.want_mt rfl rfl rfl | exact Gd.want_mf rfl rfl rfl) ?_ ?_ ?_; rotate_left 3; (focus ((intro hb; have hb0 := hb; (try simp only [Bool.and_eq_true] at hb)); refine ⟨?_, ?_⟩ <;> (go_simp; (first | done | with_reducible rfl)))); (focus (with_reducible rfl)); (intro _ _)) | ((with_reducible refine Gd.isBin0 (ty := 4) ?_); refine Gd.qb (v := ?_) (e := ?_) (by rfl) (by rfl) (fun wx hS => ?_) ?_ ?_; rotate_left 2; (focus (go_simp; (first | done | with_reducible rfl))); (focus (with_reducible rfl)); (intro _ _)) | ((with_reducible refine Gd.isUn0 (ty := 4) ?_); refine Gd.qb (v := ?_) (e := ?_) (by rfl) (by rfl) (fun wx hS => ?_) ?_ ?_; rotate_left 2; (focus (go_simp; (first | done | with_reducible rfl))); (focus (with_reducible rfl)); (intro _ _)) | ((with_reducible refine Gd.isBin1 (ty := 4) ?_); refine Gd.gb (v := ?_) (e := ?_) (by rfl) (by first | exact Gd.want_t rfl rfl rfl | exact Gd.want_f rfl rfl rfl | exact Gd.want_mt rfl rfl rfl | exact Gd.want_mf rfl rfl rfl) ?_ ?_ ?_; rotate_left 2; (focus ((intro hb; have hb0 := hb; (try simp only [Bool.and_eq_true] at hb)); intro wx hS; go_simp; (first | done | with_reducible rfl))); (focus (with_reducible rfl)); (intro _ _)) | ((with_reducible refine Gd.isUn1 (ty := 4) ?_); refine Gd.gb (v := ?_) (e := ?_) (by rfl) (by first | exact Gd.want_t rfl rfl rfl | exact Gd.want_f rfl rfl rfl | exact Gd.want_mt rfl rfl rfl | exact Gd.want_mf rfl rfl rfl) ?_ ?_ ?_; rotate_left 2; (focus ((intro hb; have hb0 := hb; (try simp only [Bool.and_eq_true] at hb)); intro wx hS; go_simp; (first | done | with_reducible rfl))); (focus (with_reducible rfl)); (intro _ _)) | ((with_reducible refine Gd.is0 ?_); refine Gd.qp (v := ?_) (by rfl) (by rfl) (fun wx hS => ?_) ?_; rotate_left; (focus (go_simp; (first | done | with_reducible rfl)))) | ((with_reducible refine Gd.is1 ?_); refine Gd.gp (v := ?_) (by rfl) (by first | exact Gd.want_t rfl rfl rfl | exact Gd.want_f rfl rfl rfl | exact Gd.want_mt rfl rfl rfl | exact Gd.want_mf rfl rfl rfl) ?_ ?_; rotate_left; (focus ((intro hb; have hb0 := hb; (try simp only [Bool.and_eq_true] at hb)); intro wx hS; go_simp; (first | done | with_reducible rfl))))); (try simp only [Act.put, List.setIfInBounds_toArray, List.set_cons_zero, List.set_cons_succ]))
 refine Ch.done ?_
 rename_i d hd
 have hd2 : (((st : Int) == 13) || ((st : Int) == 15)) = d := or2c hd (by assumption) (by assumption)
 obtain rfl : dm = d := by rw [← hd2, HDM.out, Bool.eq_iff_iff]; simp; omega
 clear hd hd2
 go_upto_region 7 with (first | ((with_reducible refine Se.isL (o := ⟨some 44, _, _, _, _, _⟩) ?_); (refine Se.toL rfl (Se.ldw (o := ⟨some 44, _, _, _, _, _⟩) hs rfl rfl ((Reads.blk 2 rfl)) ((by rw [RLL.out]; kernel_rfl)) (by kernel_rfl) ?_))) | ((with_reducible refine Se.isL (o := ⟨some 10, _, _, _, _, _⟩) ?_); (refine Se.toL rfl (Se.al (o := ⟨some 10, _, _, _, _, _⟩) hs rfl (zRz'.out) ?_); clear hs; rintro w g10 - hs)) | ((with_reducible refine Se.isL (o := ⟨none, _, _, _, _, _⟩) ?_); (refine Se.toL rfl (Se.sow 0 hs rfl rfl rfl rfl (RLO.out) ((by rw [RLL.out]; kernel_rfl)) ((by rw [RLL.out, ZL0.out])) ?_); clear hs; intro w hs; try simp only [List.cons_append, List.nil_append, List.set_cons_zero] at hs)))
 go_upto_region 11 with (fail)
 refine Gd.plain 24 (fun wx => Blk wx g8 [iv st, iv p, iv rr] 67) (fun  | _ => false) rfl (hs.hold (.blk g8 67 [iv st, iv p, iv rr]) (by simp)) ?_
 change Ch.CW _ _ _ _ _ [0, 1, 2, 3, 4, 5, 6, 7, 8, 9, 10, 11, 12, 13, 14, 15, 16, 17, 18, 19, 20, 21, 22, 23] _ _
 iterate 24 (refine Gd.look (by rfl) ?_; (first | ((with_reducible refine Gd.isLoad0 ?_); first | (refine Gd.qp (v := _) (by rfl) (by rfl) (fun wx hS => Se.xl (by rfl) (by rfl) (by rw [(hS).cell]; rfl) (by decide +kernel)) ?_)) | ((with_reducible refine Gd.isLoad1 ?_); first | (refine Gd.gp (v := ?_) (by rfl) (by first | exact Gd.want_t rfl rfl rfl | exact Gd.want_f rfl rfl rfl | exact Gd.want_mt rfl rfl rfl | exact Gd.want_mf rfl rfl rfl) ?_ ?_; rotate_left; (focus ((intro hb; have hb0 := hb; (try simp only [Bool.and_eq_true] at hb)); intro wx hS; exact Se.xl (by rfl) (by exact Gd.mv_of hb0) (by rw [(hS).cell]; rfl) (by decide +kernel)))) | (refine Gd.gp (v := ?_) (by rfl) (by first | exact Gd.want_t rfl rfl rfl | exact Gd.want_f rfl rfl rfl | exact Gd.want_mt rfl rfl rfl | exact Gd.want_mf rfl rfl rfl) ?_ ?_; rotate_left; (focus ((intro hb; have hb0 := hb; (try simp only [Bool.and_eq_true] at hb)); intro wx hS; exact Se.xl (by rfl) (by rfl) (by rw [(hS).cell]; rfl) (by decide +kernel))))) | ((with_reducible refine Gd.isPick0 ?_); refine Gd.qpick (b := _) (v := ?_) (e := ?_) (by rfl) (by rfl) (by rfl) (by rfl) ?_ ?_ ?_; rotate_left 2; (focus (go_simp; (first | done | with_reducible rfl))); (focus (with_reducible rfl)); (intro _ _)) | ((with_reducible refine Gd.isPick1 ?_); refine Gd.gpick (b := ?_) (v := ?_) (e := ?_) (by rfl) (by rfl) (by first | exact Gd.want_t rfl rfl rfl | exact Gd.want_f rfl rfl rfl | exact Gd.want_mt rfl rfl rfl | exact Gd.want_mf rfl rfl rfl) ?_ ?_ ?_; rotate_left 3; (focus ((intro hb; have hb0 := hb; (try simp only [Bool.and_eq_true] at hb)); refine ⟨?_, ?_⟩ <;> (go_simp; (first | done | with_reducible rfl)))); (focus (with_reducible rfl)); (intro _ _)) | ((with_reducible refine Gd.isBin0 (ty := 4) ?_); refine Gd.qb (v := ?_) (e := ?_) (by rfl) (by rfl) (fun wx hS => ?_) ?_ ?_; rotate_left 2; (focus (go_simp; (first | done | with_reducible rfl))); (focus (with_reducible rfl)); (intro _ _)) | ((with_reducible refine Gd.isUn0 (ty := 4) ?_); refine Gd.qb (v := ?_) (e := ?_) (by rfl) (by rfl) (fun wx hS => ?_) ?_ ?_; rotate_left 2; (focus (go_simp; (first | done | with_reducible rfl))); (focus (with_reducible rfl)); (intro _ _)) | ((with_reducible refine Gd.isBin1 (ty := 4) ?_); refine Gd.gb (v := ?_) (e := ?_) (by rfl) (by first | exact Gd.want_t rfl rfl rfl | exact Gd.want_f rfl rfl rfl | exact Gd.want_mt rfl rfl rfl | exact Gd.want_mf rfl rfl rfl) ?_ ?_ ?_; rotate_left 2; (focus ((intro hb; have hb0 := hb; (try simp only [Bool.and_eq_true] at hb)); intro wx hS; go_simp; (first | done | with_reducible rfl))); (focus (with_reducible rfl)); (intro _ _)) | ((with_reducible refine Gd.isUn1 (ty := 4) ?_); refine Gd.gb (v := ?_) (e := ?_) (by rfl) (by first | exact Gd.want_t rfl rfl rfl | exact Gd.want_f rfl rfl rfl | exact Gd.want_mt rfl rfl rfl | exact Gd.want_mf rfl rfl rfl) ?_ ?_ ?_; rotate_left 2; (focus ((intro hb; have hb0 := hb; (try simp only [Bool.and_eq_true] at hb)); intro wx hS; go_simp; (first | done | with_reducible rfl))); (focus (with_reducible rfl)); (intro _ _)) | ((with_reducible refine Gd.is0 ?_); refine Gd.qp (v := ?_) (by rfl) (by rfl) (fun wx hS => ?_) ?_; rotate_left; (focus (go_simp; (first | done | with_reducible rfl)))) | ((with_reducible refine Gd.is1 ?_); refine Gd.gp (v := ?_) (by rfl) (by first | exact Gd.want_t rfl rfl rfl | exact Gd.want_f rfl rfl rfl | exact Gd.want_mt rfl rfl rfl | exact Gd.want_mf rfl rfl rfl) ?_ ?_; rotate_left; (focus ((intro hb; have hb0 := hb; (try simp only [Bool.and_eq_true] at hb)); intro wx hS; go_simp; (first | done | with_reducible rfl))))); (try simp only [Act.put, List.setIfInBounds_toArray, List.set_cons_zero, List.set_cons_succ]))
 refine Ch.done ?_
 rename_i cc hd
 have hd2 : (dm || (((st : Int) == 14) && (true || false)) || (((st : Int) == 1) && true)) = cc := man8 hd (by assumption) (by assumption) (by assumption) (by assumption) (by assumption) (by assumption) (by assumption) (by assumption) (by assumption)
 obtain rfl : bd = cc := by rw [← hd2, HBD.out, HDM.out, Bool.eq_iff_iff]; simp <;> omega
 clear hd hd2
 cases bd with
 | true =>
  clear GOOD
  have HB := Lib.hid (BAD.out (by rfl))
  clear BAD CSE CO CQ HO
  go_wp2_with (first | ((with_reducible refine Se.isL (o := ⟨some 78, _, _, _, _, _⟩) ?_); (refine Se.toL rfl (Se.ldw (o := ⟨some 78, _, _, _, _, _⟩) hs rfl rfl ((Reads.blk 3 rfl)) ((by rw [RLL.out]; kernel_rfl)) (by kernel_rfl) ?_))) | ((with_reducible refine Se.isL (o := ⟨none, Op.store 43 _ _, _, _, _, _⟩) ?_); (refine Se.toL rfl (Se.sow 2 hs rfl rfl rfl rfl (RLO.out) ((by rw [RLL.out]; kernel_rfl)) ((by rw [RLL.out, ZL0.out])) ?_); clear hs; intro w hs; try simp only [List.cons_append, List.nil_append, List.set_cons_zero, List.set_cons_succ] at hs)))
  refine Se.ret hs [.agg RL.toArray, .int .i64 191] rfl ⟨Se.resRow rfl (Reads.blk 2 rfl) (by kernel_rfl) (by rw [RLL.out] <;> kernel_rfl), rfl, trivial⟩ (by simp) rfl ?_
  exact ⟨trivial, SAME.out 191 HB.out _ hs.drop.drop.drop.drop⟩
 | false =>
 by_cases h0 : p = 0
 ·have d0 : ((p : Int) == 0) = true := by simp; omega
  have HP0 := Lib.hid h0
  clear h0
  have HB := Lib.hid (GOOD.out (⟨1, p, rr⟩) (by exact ⟨rfl, by rw [if_pos HP0.out]⟩))
  have CS := Lib.hid (CSE.out (⟨1, p, rr⟩))
  clear BAD GOOD CSE CO CQ SAME HO
  go_wp2_with (first | ((with_reducible refine Se.isL (o := ⟨none, _, _, _, _, _⟩) ?_); ((first | refine Se.toL rfl (Se.so 1 (v := .int _ _) hs rfl rfl rfl rfl rfl (by kernel_rfl) (by simp) ?_) | refine Se.toL rfl (Se.so 1 (v := .bool _) hs rfl rfl rfl rfl rfl (by kernel_rfl) (by simp) ?_) | refine Se.toL rfl (Se.so 1 (v := .slice _ _ _) hs rfl rfl rfl rfl rfl (by kernel_rfl) (by simp) ?_) | refine Se.toL rfl (Se.so 1 (v := .pointer _) hs rfl rfl rfl rfl rfl (by kernel_rfl) (by simp) ?_) | refine Se.toL rfl (Se.so 1 (v := .string _) hs rfl rfl rfl rfl rfl (by kernel_rfl) (by simp) ?_) | refine Se.toL rfl (Se.so 1 (v := .map _) hs rfl rfl rfl rfl rfl (by kernel_rfl) (by simp) ?_) | refine Se.toL rfl (Se.so 1 (v := .func _ _ _) hs rfl rfl rfl rfl rfl (by kernel_rfl) (by simp) ?_) | refine Se.toL rfl (Se.so 1 (v := .nilFunc) hs rfl rfl rfl rfl rfl (by kernel_rfl) (by simp) ?_)); clear hs; intro w hs; try simp only [List.cons_append, List.nil_append, List.set_cons_zero, List.set_cons_succ] at hs)) | ((with_reducible refine Se.isL (o := ⟨some 103, _, _, _, _, _⟩) ?_); (refine Se.toL rfl (Se.ld (o := ⟨some 103, _, _, _, _, _⟩) hs rfl rfl (Cell.blk 1 rfl rfl) (by kernel_rfl) ?_))) | ((with_reducible refine Se.isL (o := ⟨some 114, _, _, _, _, _⟩) ?_); (refine Se.toL rfl (Se.ldw (o := ⟨some 114, _, _, _, _, _⟩) hs rfl rfl ((Reads.blk 0 rfl)) ((by rw [RLL.out]; kernel_rfl)) (by kernel_rfl) ?_))) | ((with_reducible refine Se.isL (o := ⟨some 116, _, _, _, _, _⟩) ?_); (refine Se.toL rfl (Se.ldw (o := ⟨some 116, _, _, _, _, _⟩) hs rfl rfl ((Reads.blk 1 rfl)) ((by kernel_rfl)) (by kernel_rfl) ?_))) | ((with_reducible refine Se.isL (o := ⟨none, Op.store 43 _ _, _, _, _, _⟩) ?_); (refine Se.toL rfl (Se.sow 3 hs rfl rfl rfl rfl (hzn.one) ((by rw [hzn.len]; kernel_rfl)) ((by rw [hzn.len, ZL0.out])) ?_); clear hs; intro w hs; try simp only [List.cons_append, List.nil_append, List.set_cons_zero, List.set_cons_succ] at hs)) | (go_at_call 84; refine Calls.mono (CS.out [_, _, _, _] _ hs) ?_; clear hs; rintro e w ⟨A', ZN, rfl, hzn, hs⟩))
  refine Se.ret hs [.agg ZN.toArray, .int .i64 0] rfl ⟨Se.resRow rfl (Reads.blk 3 rfl) (by kernel_rfl) (by rw [hzn.len] <;> kernel_rfl), rfl, trivial⟩ (by simp) rfl ?_
  refine ⟨trivial, ?_⟩
  rw [HB.out]
  exact ⟨A', ZN, rfl, hzn, hs.sub (List.Sublist.cons_cons _ (.cons _ (.cons _ (.cons _ (.cons _ (List.Sublist.refl _))))))⟩
 ·have d0 : ((p : Int) == 0) = false := by simp; omega
  have HP0 := Lib.hid h0
  clear h0
  have HB := Lib.hid (GOOD.out (⟨4, p, rr⟩) (by exact ⟨rfl, by rw [if_neg HP0.out]⟩))
  have CS := Lib.hid (CSE.out (⟨4, p, rr⟩))
  clear BAD GOOD CSE CO CQ SAME HO
  go_wp2_with (first | ((with_reducible refine Se.isL (o := ⟨none, _, _, _, _, _⟩) ?_); ((first | refine Se.toL rfl (Se.so 1 (v := .int _ _) hs rfl rfl rfl rfl rfl (by kernel_rfl) (by simp) ?_) | refine Se.toL rfl (Se.so 1 (v := .bool _) hs rfl rfl rfl rfl rfl (by kernel_rfl) (by simp) ?_) | refine Se.toL rfl (Se.so 1 (v := .slice _ _ _) hs rfl rfl rfl rfl rfl (by kernel_rfl) (by simp) ?_) | refine Se.toL rfl (Se.so 1 (v := .pointer _) hs rfl rfl rfl rfl rfl (by kernel_rfl) (by simp) ?_) | refine Se.toL rfl (Se.so 1 (v := .string _) hs rfl rfl rfl rfl rfl (by kernel_rfl) (by simp) ?_) | refine Se.toL rfl (Se.so 1 (v := .map _) hs rfl rfl rfl rfl rfl (by kernel_rfl) (by simp) ?_) | refine Se.toL rfl (Se.so 1 (v := .func _ _ _) hs rfl rfl rfl rfl rfl (by kernel_rfl) (by simp) ?_) | refine Se.toL rfl (Se.so 1 (v := .nilFunc) hs rfl rfl rfl rfl rfl (by kernel_rfl) (by simp) ?_)); clear hs; intro w hs; try simp only [List.cons_append, List.nil_append, List.set_cons_zero, List.set_cons_succ] at hs)) | ((with_reducible refine Se.isL (o := ⟨some 103, _, _, _, _, _⟩) ?_); (refine Se.toL rfl (Se.ld (o := ⟨some 103, _, _, _, _, _⟩) hs rfl rfl (Cell.blk 1 rfl rfl) (by kernel_rfl) ?_))) | ((with_reducible refine Se.isL (o := ⟨some 114, _, _, _, _, _⟩) ?_); (refine Se.toL rfl (Se.ldw (o := ⟨some 114, _, _, _, _, _⟩) hs rfl rfl ((Reads.blk 0 rfl)) ((by rw [RLL.out]; kernel_rfl)) (by kernel_rfl) ?_))) | ((with_reducible refine Se.isL (o := ⟨some 116, _, _, _, _, _⟩) ?_); (refine Se.toL rfl (Se.ldw (o := ⟨some 116, _, _, _, _, _⟩) hs rfl rfl ((Reads.blk 1 rfl)) ((by kernel_rfl)) (by kernel_rfl) ?_))) | ((with_reducible refine Se.isL (o := ⟨none, Op.store 43 _ _, _, _, _, _⟩) ?_); (refine Se.toL rfl (Se.sow 3 hs rfl rfl rfl rfl (hzn.one) ((by rw [hzn.len]; kernel_rfl)) ((by rw [hzn.len, ZL0.out])) ?_); clear hs; intro w hs; try simp only [List.cons_append, List.nil_append, List.set_cons_zero, List.set_cons_succ] at hs)) | (go_at_call 84; refine Calls.mono (CS.out [_, _, _, _] _ hs) ?_; clear hs; rintro e w ⟨A', ZN, rfl, hzn, hs⟩))
  refine Se.ret hs [.agg ZN.toArray, .int .i64 0] rfl ⟨Se.resRow rfl (Reads.blk 3 rfl) (by kernel_rfl) (by rw [hzn.len] <;> kernel_rfl), rfl, trivial⟩ (by simp) rfl ?_
  refine ⟨trivial, ?_⟩
  rw [HB.out]
  exact ⟨A', ZN, rfl, hzn, hs.sub (List.Sublist.cons_cons _ (.cons _ (.cons _ (.cons _ (.cons _ (List.Sublist.refl _))))))⟩
theorem rman2 {z : Zs} {A : Option Addr} {ZI : List Value} (hs : St w0 X L w) (hm : At.rd A (ocs z.l) ∈ L) (ho : OkZ z) (hz : RZ z A ZI) {i : Nat} (hi : i < z.l.length) :
  Calls Try.prog 50 #[.agg ZI.toArray, .int .i64 (i : Int), .int .i64 2] w fun e w' => True ∧ QR w0 X L (actE z i 2) e w' := by
 obtain ⟨cc, hRZ⟩ := hz
 obtain ⟨ga, oa, rfl, _, _⟩ := (hs.hold _ hm).cells (ocs_ne (by rw [ho.1]; exact ho.2.1))
 obtain ⟨RL, hRL⟩ : ∃ RL, RL = ZI := ⟨_, rfl⟩
 rw [← hRL]
 rw [hRZ] at hRL
 obtain ⟨k, hk⟩ : ∃ n, n = z.l.length := ⟨_, rfl⟩
 have hk1 : k ≤ 4096 := by rw [hk, ho.1]; exact ho.2.2.1
 have hk0 : 1 ≤ k := by rw [hk, ho.1]; exact ho.2.1
 have RLL := Lib.hid (show RL.length = 7 by rw [hRL]; rfl)
 have RLO := Lib.hid (show ∀ v ∈ RL, v.oneCell' = true by rw [hRL]; exact zcl_one _ _ _)
 have R5 := Lib.hid (show RL[5]? = some (.slice (some ⟨ga, oa, none⟩) k cc) by rw [hRL, hk]; rfl)
 obtain ⟨cap, hcap⟩ : ∃ n, n = z.c.cap := ⟨_, rfl⟩
 have R2 := Lib.hid (show RL[2]? = some (iv cap) by rw [hRL, hcap]; rfl)
 obtain ⟨l, hl⟩ : ∃ l, l = z.l := ⟨_, rfl⟩
 obtain ⟨x, hx⟩ : ∃ x, x = l.getD i dz := ⟨_, rfl⟩
 obtain ⟨st, hst⟩ : ∃ p, p = x.st := ⟨_, rfl⟩
 obtain ⟨p, hp⟩ : ∃ p, p = x.p := ⟨_, rfl⟩
 have hil : i < l.length := by rw [hl]; exact hi
 have hmr : Reads L (some ⟨ga, oa, none⟩) (ocs l) := by rw [hl]; exact Reads.rdm hm
 have C0 := Lib.hid (show Cell L ga (oa + i * 3) (iv st) from rcell hmr hil 0 (by decide) (by rw [hst, hx]; rfl))
 have C1 := Lib.hid (show Cell L ga (oa + i * 3 + 1) (iv p) from rcell hmr hil 1 (by decide) (by rw [hp, hx]; rfl))
 have HRX := Lib.hid (show Reads L (some ⟨ga, oa + i * 3, none⟩) (oc x) by rw [hx, getD_get hil]; exact row_at hmr hil)
 have hik : (i : Int) < (k : Int) := by rw [hk]; omega
 obtain ⟨rr, hrr⟩ : ∃ p, p = x.r := ⟨_, rfl⟩
 have hzr : RZ z (some ⟨ga, oa, none⟩) RL := ⟨cc, hRL⟩
 have SAME : Hid (∀ c, actE z i 2 = (z, c) → ∀ w, St w0 X L w → QR w0 X L (actE z i 2) (.returned (.tuple #[.agg RL.toArray, iv c])) w) := Lib.hid (fun c he w hs => by
  rw [he]
  exact ⟨_, _, rfl, hzr, hs.dup hm⟩)
 obtain ⟨RZ0, hRZ0⟩ : ∃ R, R = zcl { c := ⟨0, 0, 0, 0, 0⟩, l := [] } none 0 := ⟨_, rfl⟩
 have ZL0 := Lib.hid (show RZ0.length = 7 by rw [hRZ0]; rfl)
 have zRz' := Lib.hid zRz
 rw [← hRZ0] at zRz'
 clear hRZ0
 have hax := actE_x (z := z) (i := i) (a := 2) (x := x) (st := st) (by rw [hx, hl]) hst
 have HX := Lib.hid (show x = ⟨st, p, rr⟩ by rw [hst, hp, hrr])
 have HRX := Lib.hid (show Reads L (some ⟨ga, oa + i * 3, none⟩) [iv st, iv p, iv rr] by have h := HRX.out; rw [HX.out] at h; exact h)
 have CSE : Hid (∀ (xf : Zn) (M : List At) (w : World), St w0 X (M ++ L) w → Calls Try.prog 84 #[.agg RL.toArray, .int .i64 (i : Int), .agg (oc xf).toArray] w fun e w' => Q1 w0 X (M ++ L) (putS z i xf) e w') := Lib.hid (fun xf M w hs => rset' hs (memM hm M) ho hzr hi xf)
 obtain ⟨b, hb⟩ : ∃ b, b = opn st := ⟨_, rfl⟩
 have CO : Hid (∀ (L : List At) (w : World), St w0 X L w → Calls Try.prog 78 #[iv st] w fun e w' => e = .returned (.bool b) ∧ St w0 X L w') := Lib.hid (fun L w hs => by rw [hb]; exact ropen_v hs st)
 have CQ : Hid (∀ (M : List At) (w : World), St w0 X (M ++ L) w → Calls Try.prog 83 #[.agg RL.toArray, .int .i64 (i : Int)] w fun e' w' => True ∧ QR w0 X (M ++ L) (opensE z i) e' w') := Lib.hid (fun M w hs => ropens_st hs (memM hm M) ho hzr hi)
 have HOP := Lib.hid (ho.opens i)
 have HKZ := Lib.hid hk
 have HBO := Lib.hid hb
 have HCAP := Lib.hid hcap
 have HO := Lib.hid ho
 rw [HX.out] at hax
 have HIX := Lib.hid (show z.l.getD i dz = ⟨st, p, rr⟩ by rw [← HX.out, hx, hl])
 have HII := Lib.hid hi
 obtain ⟨dm, hdm⟩ : ∃ b : Bool, b = decide (st = 13 ∨ st = 15) := ⟨_, rfl⟩
 obtain ⟨bd, hbd⟩ : ∃ b : Bool, b = decide (st = 13 ∨ st = 15 ∨ False) := ⟨_, rfl⟩
 have hiff : (st = 13 ∨ st = 15 ∨ st = 14 ∧ (2 = 1 ∨ 2 = 3) ∨ st = 1 ∧ 2 = 1) ↔ (st = 13 ∨ st = 15 ∨ False) := by first | omega | simp
 have BAD : Hid (bd = true → actE z i 2 = (z, 191)) := Lib.hid (fun h => by rw [hbd, decide_eq_true_eq] at h; rw [hax, if_neg (by decide), if_pos (hiff.2 h)])
 have NB : bd = false → ¬ (st = 13 ∨ st = 15 ∨ st = 14 ∧ (2 = 1 ∨ 2 = 3) ∨ st = 1 ∧ 2 = 1) := fun h q => by rw [hbd, decide_eq_false_iff_not] at h; exact h (hiff.1 q)
 have GOOD : Hid (∀ xf : Zn, (bd = false ∧ xf = ⟨14, cap, rr⟩) → actE z i 2 = (putS z i xf, 0)) := Lib.hid (fun xf h => by rw [hax, if_neg (by decide), if_neg (NB h.1), if_neg (by decide), if_neg (by decide), if_pos rfl, h.2, HCAP.out])
 have HDM := Lib.hid hdm
 have HBD := Lib.hid hbd
 clear hbd NB hiff hax hdm hb hRL hRZ hk hcap ho hm hzr hl hx hst hp hrr hil hmr hi
 have v1 : decide ((i : Int) < 0) = false := by simp
 have v2 : decide ((k : Int) ≤ (i : Int)) = false := by simp; omega
 go_enter Try.func50, Try.ntmps50
 go_upto_region 4 with (first | ((with_reducible refine Se.isL (o := ⟨some 6, _, _, _, _, _⟩) ?_); (refine Se.toL rfl (Se.al (o := ⟨some 6, _, _, _, _, _⟩) hs rfl (zRz'.out) ?_); clear hs; rintro w g6 - hs)) | ((with_reducible refine Se.isL (o := ⟨some 18, _, _, _, _, _⟩) ?_); (refine Se.toL rfl (Se.ld (o := ⟨some 18, _, _, _, _, _⟩) hs rfl rfl (Cell.blk 1 rfl R5.out) (by kernel_rfl) ?_))) | ((with_reducible refine Se.isL (o := ⟨some 32, _, _, _, _, _⟩) ?_); (refine Se.toL rfl (Se.ld (o := ⟨some 32, _, _, _, _, _⟩) hs rfl rfl (Cell.blk 1 rfl R5.out) (by kernel_rfl) ?_))) | ((with_reducible refine Se.isL (o := ⟨some 35, _, _, _, _, _⟩) ?_); (refine Se.toL rfl (Se.ldw (o := ⟨some 35, _, _, _, _, _⟩) hs rfl rfl ((HRX.out.app [_, _])) ((by kernel_rfl)) (by kernel_rfl) ?_))) | ((with_reducible refine Se.isL (o := ⟨some 8, _, _, _, _, _⟩) ?_); (refine Se.toL rfl (Se.al (o := ⟨some 8, _, _, _, _, _⟩) hs rfl (zRo) ?_); clear hs; rintro w g8 - hs)) | ((with_reducible refine Se.isL (o := ⟨none, Op.store 67 _ _, _, _, _, _⟩) ?_); (refine Se.toL rfl (Se.sow 0 hs rfl rfl rfl rfl ((by simp [Value.oneCell'])) ((by kernel_rfl)) (rfl) ?_); clear hs; intro w hs; try simp only [List.cons_append, List.nil_append, List.set_cons_zero] at hs)) | ((first | with_reducible refine Se.ab hs ?_ | with_reducible refine Se.abc hs ?_); clear hs; (first | (generalize w.heap.size = g3; intro w hs))))
 clear v1 v2
 refine Gd.plain 9 (fun wx => Blk wx g8 [iv st, iv p, iv rr] 67) (fun  | _ => false) rfl (hs.hold (.blk g8 67 [iv st, iv p, iv rr]) (by simp)) ?_
 change Ch.CW _ _ _ _ _ [0, 1, 2, 3, 4, 5, 6, 7, 8] _ _
 iterate 9 (refine Gd.look (by rfl) ?_; (first | ((with_reducible refine Gd.isLoad0 ?_); first | (refine Gd.qp (v := _) (by rfl) (by rfl) (fun wx hS => Se.xl (by rfl) (by rfl) (by rw [(hS).cell]; rfl) (by decide +kernel)) ?_)) | ((with_reducible refine Gd.isLoad1 ?_); first | (refine Gd.gp (v := ?_) (by rfl) (by first | exact Gd.want_t rfl rfl rfl | exact Gd.want_f rfl rfl rfl | exact Gd.want_mt rfl rfl rfl | exact Gd.want_mf rfl rfl rfl) ?_ ?_; rotate_left; (focus ((intro hb; have hb0 := hb; (try simp only [Bool.and_eq_true] at hb)); intro wx hS; exact Se.xl (by rfl) (by exact Gd.mv_of hb0) (by rw [(hS).cell]; rfl) (by decide +kernel)))) | (refine Gd.gp (v := ?_) (by rfl) (by first | exact Gd.want_t rfl rfl rfl | exact Gd.want_f rfl rfl rfl | exact Gd.want_mt rfl rfl rfl | exact Gd.want_mf rfl rfl rfl) ?_ ?_; rotate_left; (focus ((intro hb; have hb0 := hb; (try simp only [Bool.and_eq_true] at hb)); intro wx hS; exact Se.xl (by rfl) (by rfl) (by rw [(hS).cell]; rfl) (by decide +kernel))))) | ((with_reducible refine Gd.isPick0 ?_); refine Gd.qpick (b := _) (v := ?_) (e := ?_) (by rfl) (by rfl) (by rfl) (by rfl) ?_ ?_ ?_; rotate_left 2; (focus (go_simp; (first | done | with_reducible rfl))); (focus (with_reducible rfl)); (intro _ _)) | ((with_reducible refine Gd.isPick1 ?_); refine Gd.gpick (b := ?_) (v := ?_) (e := ?_) (by rfl) (by rfl) (by first | exact Gd.want_t rfl rfl rfl | exact Gd.want_f rfl rfl rfl | exact Gd.want_mt rfl rfl rfl | exact Gd.want_mf rfl rfl rfl) ?_ ?_ ?_; rotate_left 3; (focus ((intro hb; have hb0 := hb; (try simp only [Bool.and_eq_true] at hb)); refine ⟨?_, ?_⟩ <;> (go_simp; (first | done | with_reducible rfl)))); (focus (with_reducible rfl)); (intro _ _)) | ((with_reducible refine Gd.isBin0 (ty := 4) ?_); refine Gd.qb (v := ?_) (e := ?_) (by rfl) (by rfl) (fun wx hS => ?_) ?_ ?_; rotate_left 2; (focus (go_simp; (first | done | with_reducible rfl))); (focus (with_reducible rfl)); (intro _ _)) | ((with_reducible refine Gd.isUn0 (ty := 4) ?_); refine Gd.qb (v := ?_) (e := ?_) (by rfl) (by rfl) (fun wx hS => ?_) ?_ ?_; rotate_left 2; (focus (go_simp; (first | done | with_reducible rfl))); (focus (with_reducible rfl)); (intro _ _)) | ((with_reducible refine Gd.isBin1 (ty := 4) ?_); refine Gd.gb (v := ?_) (e := ?_) (by rfl) (by first | exact Gd.want_t rfl rfl rfl | exact Gd.want_f rfl rfl rfl | exact Gd.want_mt rfl rfl rfl | exact Gd.want_mf rfl rfl rfl) ?_ ?_ ?_; rotate_left 2; (focus ((intro hb; have hb0 := hb; (try simp only [Bool.and_eq_true] at hb)); intro wx hS; go_simp; (first | done | with_reducible rfl))); (focus (with_reducible rfl)); (intro _ _)) | ((with_reducible refine Gd.isUn1 (ty := 4) ?_); refine Gd.gb (v := ?_) (e := ?_) (by rfl) (by first | exact Gd.want_t rfl rfl rfl | exact Gd.want_f rfl rfl rfl | exact Gd.want_mt rfl rfl rfl | exact Gd.want_mf rfl rfl rfl) ?_ ?_ ?_; rotate_left 2; (focus ((intro hb; have hb0 := hb; (try simp only [Bool.and_eq_true] at hb)); intro wx hS; go_simp; (first | done | with_reducible rfl))); (focus (with_reducible rfl)); (intro _ _)) | ((with_reducible refine Gd.is0 ?_); refine Gd.qp (v := ?_) (by rfl) (by rfl) (fun wx hS => ?_) ?_; rotate_left; (focus (go_simp; (first | done | with_reducible rfl)))) | ((with_reducible refine Gd.is1 ?_); refine Gd.gp (v := ?_) (by rfl) (by first | exact Gd.want_t rfl rfl rfl | exact Gd.want_f rfl rfl rfl | exact Gd.want_mt rfl rfl rfl | exact Gd.want_mf rfl rfl rfl) ?_ ?_; rotate_left; (focus ((intro hb; have hb0 := hb; (try simp only [Bool.and_eq_true] at hb)); intro wx hS; go_simp; (first | done | with_reducible rfl))))); (try simp only [Act.put, List.setIfInBounds_toArray, List.set_cons_zero, List.set_cons_succ]))
 refine Ch.done ?_
 rename_i d hd
 have hd2 : (((st : Int) == 13) || ((st : Int) == 15)) = d := or2c hd (by assumption) (by assumption)
 obtain rfl : dm = d := by rw [← hd2, HDM.out, Bool.eq_iff_iff]; simp; omega
 clear hd hd2
 go_upto_region 7 with (first | ((with_reducible refine Se.isL (o := ⟨some 44, _, _, _, _, _⟩) ?_); (refine Se.toL rfl (Se.ldw (o := ⟨some 44, _, _, _, _, _⟩) hs rfl rfl ((Reads.blk 2 rfl)) ((by rw [RLL.out]; kernel_rfl)) (by kernel_rfl) ?_))) | ((with_reducible refine Se.isL (o := ⟨some 10, _, _, _, _, _⟩) ?_); (refine Se.toL rfl (Se.al (o := ⟨some 10, _, _, _, _, _⟩) hs rfl (zRz'.out) ?_); clear hs; rintro w g10 - hs)) | ((with_reducible refine Se.isL (o := ⟨none, _, _, _, _, _⟩) ?_); (refine Se.toL rfl (Se.sow 0 hs rfl rfl rfl rfl (RLO.out) ((by rw [RLL.out]; kernel_rfl)) ((by rw [RLL.out, ZL0.out])) ?_); clear hs; intro w hs; try simp only [List.cons_append, List.nil_append, List.set_cons_zero] at hs)))
 go_upto_region 11 with (fail)
 refine Gd.plain 24 (fun wx => Blk wx g8 [iv st, iv p, iv rr] 67) (fun  | _ => false) rfl (hs.hold (.blk g8 67 [iv st, iv p, iv rr]) (by simp)) ?_
 change Ch.CW _ _ _ _ _ [0, 1, 2, 3, 4, 5, 6, 7, 8, 9, 10, 11, 12, 13, 14, 15, 16, 17, 18, 19, 20, 21, 22, 23] _ _
 iterate 24 (refine Gd.look (by rfl) ?_; (first | ((with_reducible refine Gd.isLoad0 ?_); first | (refine Gd.qp (v := _) (by rfl) (by rfl) (fun wx hS => Se.xl (by rfl) (by rfl) (by rw [(hS).cell]; rfl) (by decide +kernel)) ?_)) | ((with_reducible refine Gd.isLoad1 ?_); first | (refine Gd.gp (v := ?_) (by rfl) (by first | exact Gd.want_t rfl rfl rfl | exact Gd.want_f rfl rfl rfl | exact Gd.want_mt rfl rfl rfl | exact Gd.want_mf rfl rfl rfl) ?_ ?_; rotate_left; (focus ((intro hb; have hb0 := hb; (try simp only [Bool.and_eq_true] at hb)); intro wx hS; exact Se.xl (by rfl) (by exact Gd.mv_of hb0) (by rw [(hS).cell]; rfl) (by decide +kernel)))) | (refine Gd.gp (v := ?_) (by rfl) (by first | exact Gd.want_t rfl rfl rfl | exact Gd.want_f rfl rfl rfl | exact Gd.want_mt rfl rfl rfl | exact Gd.want_mf rfl rfl rfl) ?_ ?_; rotate_left; (focus ((intro hb; have hb0 := hb; (try simp only [Bool.and_eq_true] at hb)); intro wx hS; exact Se.xl (by rfl) (by rfl) (by rw [(hS).cell]; rfl) (by decide +kernel))))) | ((with_reducible refine Gd.isPick0 ?_); refine Gd.qpick (b := _) (v := ?_) (e := ?_) (by rfl) (by rfl) (by rfl) (by rfl) ?_ ?_ ?_; rotate_left 2; (focus (go_simp; (first | done | with_reducible rfl))); (focus (with_reducible rfl)); (intro _ _)) | ((with_reducible refine Gd.isPick1 ?_); refine Gd.gpick (b := ?_) (v := ?_) (e := ?_) (by rfl) (by rfl) (by first | exact Gd.want_t rfl rfl rfl | exact Gd.want_f rfl rfl rfl | exact Gd.want_mt rfl rfl rfl | exact Gd.want_mf rfl rfl rfl) ?_ ?_ ?_; rotate_left 3; (focus ((intro hb; have hb0 := hb; (try simp only [Bool.and_eq_true] at hb)); refine ⟨?_, ?_⟩ <;> (go_simp; (first | done | with_reducible rfl)))); (focus (with_reducible rfl)); (intro _ _)) | ((with_reducible refine Gd.isBin0 (ty := 4) ?_); refine Gd.qb (v := ?_) (e := ?_) (by rfl) (by rfl) (fun wx hS => ?_) ?_ ?_; rotate_left 2; (focus (go_simp; (first | done | with_reducible rfl))); (focus (with_reducible rfl)); (intro _ _)) | ((with_reducible refine Gd.isUn0 (ty := 4) ?_); refine Gd.qb (v := ?_) (e := ?_) (by rfl) (by rfl) (fun wx hS => ?_) ?_ ?_; rotate_left 2; (focus (go_simp; (first | done | with_reducible rfl))); (focus (with_reducible rfl)); (intro _ _)) | ((with_reducible refine Gd.isBin1 (ty := 4) ?_); refine Gd.gb (v := ?_) (e := ?_) (by rfl) (by first | exact Gd.want_t rfl rfl rfl | exact Gd.want_f rfl rfl rfl | exact Gd.want_mt rfl rfl rfl | exact Gd.want_mf rfl rfl rfl) ?_ ?_ ?_; rotate_left 2; (focus ((intro hb; have hb0 := hb; (try simp only [Bool.and_eq_true] at hb)); intro wx hS; go_simp; (first | done | with_reducible rfl))); (focus (with_reducible rfl)); (intro _ _)) | ((with_reducible refine Gd.isUn1 (ty := 4) ?_); refine Gd.gb (v := ?_) (e := ?_) (by rfl) (by first | exact Gd.want_t rfl rfl rfl | exact Gd.want_f rfl rfl rfl | exact Gd.want_mt rfl rfl rfl | exact Gd.want_mf rfl rfl rfl) ?_ ?_ ?_; rotate_left 2; (focus ((intro hb; have hb0 := hb; (try simp only [Bool.and_eq_true] at hb)); intro wx hS; go_simp; (first | done | with_reducible rfl))); (focus (with_reducible rfl)); (intro _ _)) | ((with_reducible refine Gd.is0 ?_); refine Gd.qp (v := ?_) (by rfl) (by rfl) (fun wx hS => ?_) ?_; rotate_left; (focus (go_simp; (first | done | with_reducible rfl)))) | ((with_reducible refine Gd.is1 ?_); refine Gd.gp (v := ?_) (by rfl) (by first | exact Gd.want_t rfl rfl rfl | exact Gd.want_f rfl rfl rfl | exact Gd.want_mt rfl rfl rfl | exact Gd.want_mf rfl rfl rfl) ?_ ?_; rotate_left; (focus ((intro hb; have hb0 := hb; (try simp only [Bool.and_eq_true] at hb)); intro wx hS; go_simp; (first | done | with_reducible rfl))))); (try simp only [Act.put, List.setIfInBounds_toArray, List.set_cons_zero, List.set_cons_succ]))
 refine Ch.done ?_
 rename_i cc hd
 have hd2 : (dm || (((st : Int) == 14) && (false || false)) || (((st : Int) == 1) && false)) = cc := man8 hd (by assumption) (by assumption) (by assumption) (by assumption) (by assumption) (by assumption) (by assumption) (by assumption) (by assumption)
 obtain rfl : bd = cc := by rw [← hd2, HBD.out, HDM.out, Bool.eq_iff_iff]; simp <;> omega
 clear hd hd2
 cases bd with
 | true =>
  clear GOOD
  have HB := Lib.hid (BAD.out (by rfl))
  clear BAD CSE CO CQ HO
  go_wp2_with (first | ((with_reducible refine Se.isL (o := ⟨some 78, _, _, _, _, _⟩) ?_); (refine Se.toL rfl (Se.ldw (o := ⟨some 78, _, _, _, _, _⟩) hs rfl rfl ((Reads.blk 3 rfl)) ((by rw [RLL.out]; kernel_rfl)) (by kernel_rfl) ?_))) | ((with_reducible refine Se.isL (o := ⟨none, Op.store 43 _ _, _, _, _, _⟩) ?_); (refine Se.toL rfl (Se.sow 2 hs rfl rfl rfl rfl (RLO.out) ((by rw [RLL.out]; kernel_rfl)) ((by rw [RLL.out, ZL0.out])) ?_); clear hs; intro w hs; try simp only [List.cons_append, List.nil_append, List.set_cons_zero, List.set_cons_succ] at hs)))
  refine Se.ret hs [.agg RL.toArray, .int .i64 191] rfl ⟨Se.resRow rfl (Reads.blk 2 rfl) (by kernel_rfl) (by rw [RLL.out] <;> kernel_rfl), rfl, trivial⟩ (by simp) rfl ?_
  exact ⟨trivial, SAME.out 191 HB.out _ hs.drop.drop.drop.drop⟩
 | false =>
 go_upto_region 25 with (fail)
 refine Ch.region' 6 (fun wx => Blk wx g3 RL 43) (fun | 4 => true | _ => false) (by kernel_rfl) (by decide +kernel) (hs.drew.hold (.blk g3 43 RL) (by simp)) ?_
 replace hs := hs.drew
 generalize w.drew = w at hs ⊢
 change Ch.CW _ _ _ _ _ [0, 1, 2, 3, 4, 5] _ _
 iterate 4 ((first | (refine Ch.pure (v := ?_) (by rfl) (by rfl) (by rfl) (fun wx hS => ?_) ?_; rotate_left; (focus (go_simp; (first | done | with_reducible rfl)))) | refine Ch.pure (v := _) (by rfl) (by rfl) (by rfl) (fun wx hS => Se.xl rfl rfl (by rw [hS.cell]; exact R2.out) (by decide +kernel)) ?_); (try simp only [Act.put, List.setIfInBounds_toArray, List.set_cons_zero, List.set_cons_succ]))
 refine Ch.noise (by rfl) (by rfl) (by rfl) (Se.so 1 (v := iv 14) hs rfl rfl rfl rfl rfl (by kernel_rfl) (by simp) ?_)
 clear hs
 intro w hs
 simp only [List.cons_append, List.nil_append, List.set_cons_zero, List.set_cons_succ] at hs
 refine ⟨hs.hold (.blk g3 43 RL) (by simp), ?_⟩
 (try simp only [Act.put, List.setIfInBounds_toArray, List.set_cons_zero, List.set_cons_succ])
 iterate 1 ((first | (refine Ch.pure (v := ?_) (by rfl) (by rfl) (by rfl) (fun wx hS => ?_) ?_; rotate_left; (focus (go_simp; (first | done | with_reducible rfl))))); (try simp only [Act.put, List.setIfInBounds_toArray, List.set_cons_zero, List.set_cons_succ]))
 refine Ch.done ?_
 try simp only [List.drop_succ_cons, List.drop_zero]
 have HB := Lib.hid (GOOD.out (⟨14, cap, rr⟩) (by exact ⟨rfl, rfl⟩))
 have CS := Lib.hid (CSE.out (⟨14, cap, rr⟩))
 clear BAD GOOD CSE CO CQ SAME HO
 go_wp2_with (first | ((with_reducible refine Se.isL (o := ⟨none, _, _, _, _, _⟩) ?_); ((first | refine Se.toL rfl (Se.so 1 (v := .int _ _) hs rfl rfl rfl rfl rfl (by kernel_rfl) (by simp) ?_) | refine Se.toL rfl (Se.so 1 (v := .bool _) hs rfl rfl rfl rfl rfl (by kernel_rfl) (by simp) ?_) | refine Se.toL rfl (Se.so 1 (v := .slice _ _ _) hs rfl rfl rfl rfl rfl (by kernel_rfl) (by simp) ?_) | refine Se.toL rfl (Se.so 1 (v := .pointer _) hs rfl rfl rfl rfl rfl (by kernel_rfl) (by simp) ?_) | refine Se.toL rfl (Se.so 1 (v := .string _) hs rfl rfl rfl rfl rfl (by kernel_rfl) (by simp) ?_) | refine Se.toL rfl (Se.so 1 (v := .map _) hs rfl rfl rfl rfl rfl (by kernel_rfl) (by simp) ?_) | refine Se.toL rfl (Se.so 1 (v := .func _ _ _) hs rfl rfl rfl rfl rfl (by kernel_rfl) (by simp) ?_) | refine Se.toL rfl (Se.so 1 (v := .nilFunc) hs rfl rfl rfl rfl rfl (by kernel_rfl) (by simp) ?_)); clear hs; intro w hs; try simp only [List.cons_append, List.nil_append, List.set_cons_zero, List.set_cons_succ] at hs)) | ((with_reducible refine Se.isL (o := ⟨some 114, _, _, _, _, _⟩) ?_); (refine Se.toL rfl (Se.ldw (o := ⟨some 114, _, _, _, _, _⟩) hs rfl rfl ((Reads.blk 0 rfl)) ((by rw [RLL.out]; kernel_rfl)) (by kernel_rfl) ?_))) | ((with_reducible refine Se.isL (o := ⟨some 116, _, _, _, _, _⟩) ?_); (refine Se.toL rfl (Se.ldw (o := ⟨some 116, _, _, _, _, _⟩) hs rfl rfl ((Reads.blk 1 rfl)) ((by kernel_rfl)) (by kernel_rfl) ?_))) | ((with_reducible refine Se.isL (o := ⟨none, Op.store 43 _ _, _, _, _, _⟩) ?_); (refine Se.toL rfl (Se.sow 3 hs rfl rfl rfl rfl (hzn.one) ((by rw [hzn.len]; kernel_rfl)) ((by rw [hzn.len, ZL0.out])) ?_); clear hs; intro w hs; try simp only [List.cons_append, List.nil_append, List.set_cons_zero, List.set_cons_succ] at hs)) | (go_at_call 84; refine Calls.mono (CS.out [_, _, _, _] _ hs) ?_; clear hs; rintro e w ⟨A', ZN, rfl, hzn, hs⟩))
 refine Se.ret hs [.agg ZN.toArray, .int .i64 0] rfl ⟨Se.resRow rfl (Reads.blk 3 rfl) (by kernel_rfl) (by rw [hzn.len] <;> kernel_rfl), rfl, trivial⟩ (by simp) rfl ?_
 refine ⟨trivial, ?_⟩
 rw [HB.out]
 exact ⟨A', ZN, rfl, hzn, hs.sub (List.Sublist.cons_cons _ (.cons _ (.cons _ (.cons _ (.cons _ (List.Sublist.refl _))))))⟩
theorem rman3 {z : Zs} {A : Option Addr} {ZI : List Value} (hs : St w0 X L w) (hm : At.rd A (ocs z.l) ∈ L) (ho : OkZ z) (hz : RZ z A ZI) {i : Nat} (hi : i < z.l.length) :
  Calls Try.prog 50 #[.agg ZI.toArray, .int .i64 (i : Int), .int .i64 3] w fun e w' => True ∧ QR w0 X L (actE z i 3) e w' := by
 obtain ⟨cc, hRZ⟩ := hz
 obtain ⟨ga, oa, rfl, _, _⟩ := (hs.hold _ hm).cells (ocs_ne (by rw [ho.1]; exact ho.2.1))
 obtain ⟨RL, hRL⟩ : ∃ RL, RL = ZI := ⟨_, rfl⟩
 rw [← hRL]
 rw [hRZ] at hRL
 obtain ⟨k, hk⟩ : ∃ n, n = z.l.length := ⟨_, rfl⟩
 have hk1 : k ≤ 4096 := by rw [hk, ho.1]; exact ho.2.2.1
 have hk0 : 1 ≤ k := by rw [hk, ho.1]; exact ho.2.1
 have RLL := Lib.hid (show RL.length = 7 by rw [hRL]; rfl)
 have RLO := Lib.hid (show ∀ v ∈ RL, v.oneCell' = true by rw [hRL]; exact zcl_one _ _ _)
 have R5 := Lib.hid (show RL[5]? = some (.slice (some ⟨ga, oa, none⟩) k cc) by rw [hRL, hk]; rfl)
 obtain ⟨cap, hcap⟩ : ∃ n, n = z.c.cap := ⟨_, rfl⟩
 have R2 := Lib.hid (show RL[2]? = some (iv cap) by rw [hRL, hcap]; rfl)
 obtain ⟨l, hl⟩ : ∃ l, l = z.l := ⟨_, rfl⟩
 obtain ⟨x, hx⟩ : ∃ x, x = l.getD i dz := ⟨_, rfl⟩
 obtain ⟨st, hst⟩ : ∃ p, p = x.st := ⟨_, rfl⟩
 obtain ⟨p, hp⟩ : ∃ p, p = x.p := ⟨_, rfl⟩
 have hil : i < l.length := by rw [hl]; exact hi
 have hmr : Reads L (some ⟨ga, oa, none⟩) (ocs l) := by rw [hl]; exact Reads.rdm hm
 have C0 := Lib.hid (show Cell L ga (oa + i * 3) (iv st) from rcell hmr hil 0 (by decide) (by rw [hst, hx]; rfl))
 have C1 := Lib.hid (show Cell L ga (oa + i * 3 + 1) (iv p) from rcell hmr hil 1 (by decide) (by rw [hp, hx]; rfl))
 have HRX := Lib.hid (show Reads L (some ⟨ga, oa + i * 3, none⟩) (oc x) by rw [hx, getD_get hil]; exact row_at hmr hil)
 have hik : (i : Int) < (k : Int) := by rw [hk]; omega
 obtain ⟨rr, hrr⟩ : ∃ p, p = x.r := ⟨_, rfl⟩
 have hzr : RZ z (some ⟨ga, oa, none⟩) RL := ⟨cc, hRL⟩
 have SAME : Hid (∀ c, actE z i 3 = (z, c) → ∀ w, St w0 X L w → QR w0 X L (actE z i 3) (.returned (.tuple #[.agg RL.toArray, iv c])) w) := Lib.hid (fun c he w hs => by
  rw [he]
  exact ⟨_, _, rfl, hzr, hs.dup hm⟩)
 obtain ⟨RZ0, hRZ0⟩ : ∃ R, R = zcl { c := ⟨0, 0, 0, 0, 0⟩, l := [] } none 0 := ⟨_, rfl⟩
 have ZL0 := Lib.hid (show RZ0.length = 7 by rw [hRZ0]; rfl)
 have zRz' := Lib.hid zRz
 rw [← hRZ0] at zRz'
 clear hRZ0
 have hax := actE_x (z := z) (i := i) (a := 3) (x := x) (st := st) (by rw [hx, hl]) hst
 have HX := Lib.hid (show x = ⟨st, p, rr⟩ by rw [hst, hp, hrr])
 have HRX := Lib.hid (show Reads L (some ⟨ga, oa + i * 3, none⟩) [iv st, iv p, iv rr] by have h := HRX.out; rw [HX.out] at h; exact h)
 have CSE : Hid (∀ (xf : Zn) (M : List At) (w : World), St w0 X (M ++ L) w → Calls Try.prog 84 #[.agg RL.toArray, .int .i64 (i : Int), .agg (oc xf).toArray] w fun e w' => Q1 w0 X (M ++ L) (putS z i xf) e w') := Lib.hid (fun xf M w hs => rset' hs (memM hm M) ho hzr hi xf)
 obtain ⟨b, hb⟩ : ∃ b, b = opn st := ⟨_, rfl⟩
 have CO : Hid (∀ (L : List At) (w : World), St w0 X L w → Calls Try.prog 78 #[iv st] w fun e w' => e = .returned (.bool b) ∧ St w0 X L w') := Lib.hid (fun L w hs => by rw [hb]; exact ropen_v hs st)
 have CQ : Hid (∀ (M : List At) (w : World), St w0 X (M ++ L) w → Calls Try.prog 83 #[.agg RL.toArray, .int .i64 (i : Int)] w fun e' w' => True ∧ QR w0 X (M ++ L) (opensE z i) e' w') := Lib.hid (fun M w hs => ropens_st hs (memM hm M) ho hzr hi)
 have HOP := Lib.hid (ho.opens i)
 have HKZ := Lib.hid hk
 have HBO := Lib.hid hb
 have HCAP := Lib.hid hcap
 have HO := Lib.hid ho
 rw [HX.out] at hax
 have HIX := Lib.hid (show z.l.getD i dz = ⟨st, p, rr⟩ by rw [← HX.out, hx, hl])
 have HII := Lib.hid hi
 obtain ⟨dm, hdm⟩ : ∃ b : Bool, b = decide (st = 13 ∨ st = 15) := ⟨_, rfl⟩
 obtain ⟨bd, hbd⟩ : ∃ b : Bool, b = decide (st = 13 ∨ st = 15 ∨ st = 14) := ⟨_, rfl⟩
 have hiff : (st = 13 ∨ st = 15 ∨ st = 14 ∧ (3 = 1 ∨ 3 = 3) ∨ st = 1 ∧ 3 = 1) ↔ (st = 13 ∨ st = 15 ∨ st = 14) := by first | omega | simp
 have BAD : Hid (bd = true → actE z i 3 = (z, 191)) := Lib.hid (fun h => by rw [hbd, decide_eq_true_eq] at h; rw [hax, if_neg (by decide), if_pos (hiff.2 h)])
 have NB : bd = false → ¬ (st = 13 ∨ st = 15 ∨ st = 14 ∧ (3 = 1 ∨ 3 = 3) ∨ st = 1 ∧ 3 = 1) := fun h q => by rw [hbd, decide_eq_false_iff_not] at h; exact h (hiff.1 q)
 have GOOD : Hid (∀ xf : Zn, ((bd = false ∧ b = true) ∧ xf = ⟨3, p, rr⟩) → actE z i 3 = (putS z i xf, 0)) := Lib.hid (fun xf h => by rw [hax, if_neg (by decide), if_neg (NB h.1.1), if_pos rfl, if_pos (by rw [← hb]; exact h.1.2), h.2])
 have GOD2 : Hid (∀ xf : Zn, (bd = false ∧ b = false) → (opensE z i).2 = 0 → xf = ⟨3, p, rr⟩ → actE z i 3 = (putS (opensE z i).1 i xf, 0)) := Lib.hid (fun xf h h2 h3 => by rw [hax, if_neg (by decide), if_neg (NB h.1), if_pos rfl, if_neg (by rw [← hb, h.2]; decide), if_pos h2, h3])
 have BAD2 : Hid ((bd = false ∧ b = false) → (opensE z i).2 ≠ 0 → actE z i 3 = (z, (opensE z i).2)) := Lib.hid (fun h h2 => by rw [hax, if_neg (by decide), if_neg (NB h.1), if_pos rfl, if_neg (by rw [← hb, h.2]; decide), if_neg h2])
 have HDM := Lib.hid hdm
 have HBD := Lib.hid hbd
 clear hbd NB hiff hax hdm hb hRL hRZ hk hcap ho hm hzr hl hx hst hp hrr hil hmr hi
 have v1 : decide ((i : Int) < 0) = false := by simp
 have v2 : decide ((k : Int) ≤ (i : Int)) = false := by simp; omega
 go_enter Try.func50, Try.ntmps50
 go_upto_region 4 with (first | ((with_reducible refine Se.isL (o := ⟨some 6, _, _, _, _, _⟩) ?_); (refine Se.toL rfl (Se.al (o := ⟨some 6, _, _, _, _, _⟩) hs rfl (zRz'.out) ?_); clear hs; rintro w g6 - hs)) | ((with_reducible refine Se.isL (o := ⟨some 18, _, _, _, _, _⟩) ?_); (refine Se.toL rfl (Se.ld (o := ⟨some 18, _, _, _, _, _⟩) hs rfl rfl (Cell.blk 1 rfl R5.out) (by kernel_rfl) ?_))) | ((with_reducible refine Se.isL (o := ⟨some 32, _, _, _, _, _⟩) ?_); (refine Se.toL rfl (Se.ld (o := ⟨some 32, _, _, _, _, _⟩) hs rfl rfl (Cell.blk 1 rfl R5.out) (by kernel_rfl) ?_))) | ((with_reducible refine Se.isL (o := ⟨some 35, _, _, _, _, _⟩) ?_); (refine Se.toL rfl (Se.ldw (o := ⟨some 35, _, _, _, _, _⟩) hs rfl rfl ((HRX.out.app [_, _])) ((by kernel_rfl)) (by kernel_rfl) ?_))) | ((with_reducible refine Se.isL (o := ⟨some 8, _, _, _, _, _⟩) ?_); (refine Se.toL rfl (Se.al (o := ⟨some 8, _, _, _, _, _⟩) hs rfl (zRo) ?_); clear hs; rintro w g8 - hs)) | ((with_reducible refine Se.isL (o := ⟨none, Op.store 67 _ _, _, _, _, _⟩) ?_); (refine Se.toL rfl (Se.sow 0 hs rfl rfl rfl rfl ((by simp [Value.oneCell'])) ((by kernel_rfl)) (rfl) ?_); clear hs; intro w hs; try simp only [List.cons_append, List.nil_append, List.set_cons_zero] at hs)) | ((first | with_reducible refine Se.ab hs ?_ | with_reducible refine Se.abc hs ?_); clear hs; (first | (generalize w.heap.size = g3; intro w hs))))
 clear v1 v2
 refine Gd.plain 9 (fun wx => Blk wx g8 [iv st, iv p, iv rr] 67) (fun  | _ => false) rfl (hs.hold (.blk g8 67 [iv st, iv p, iv rr]) (by simp)) ?_
 change Ch.CW _ _ _ _ _ [0, 1, 2, 3, 4, 5, 6, 7, 8] _ _
 iterate 9 (refine Gd.look (by rfl) ?_; (first | ((with_reducible refine Gd.isLoad0 ?_); first | (refine Gd.qp (v := _) (by rfl) (by rfl) (fun wx hS => Se.xl (by rfl) (by rfl) (by rw [(hS).cell]; rfl) (by decide +kernel)) ?_)) | ((with_reducible refine Gd.isLoad1 ?_); first | (refine Gd.gp (v := ?_) (by rfl) (by first | exact Gd.want_t rfl rfl rfl | exact Gd.want_f rfl rfl rfl | exact Gd.want_mt rfl rfl rfl | exact Gd.want_mf rfl rfl rfl) ?_ ?_; rotate_left; (focus ((intro hb; have hb0 := hb; (try simp only [Bool.and_eq_true] at hb)); intro wx hS; exact Se.xl (by rfl) (by exact Gd.mv_of hb0) (by rw [(hS).cell]; rfl) (by decide +kernel)))) | (refine Gd.gp (v := ?_) (by rfl) (by first | exact Gd.want_t rfl rfl rfl | exact Gd.want_f rfl rfl rfl | exact Gd.want_mt rfl rfl rfl | exact Gd.want_mf rfl rfl rfl) ?_ ?_; rotate_left; (focus ((intro hb; have hb0 := hb; (try simp only [Bool.and_eq_true] at hb)); intro wx hS; exact Se.xl (by rfl) (by rfl) (by rw [(hS).cell]; rfl) (by decide +kernel))))) | ((with_reducible refine Gd.isPick0 ?_); refine Gd.qpick (b := _) (v := ?_) (e := ?_) (by rfl) (by rfl) (by rfl) (by rfl) ?_ ?_ ?_; rotate_left 2; (focus (go_simp; (first | done | with_reducible rfl))); (focus (with_reducible rfl)); (intro _ _)) | ((with_reducible refine Gd.isPick1 ?_); refine Gd.gpick (b := ?_) (v := ?_) (e := ?_) (by rfl) (by rfl) (by first | exact Gd.want_t rfl rfl rfl | exact Gd.want_f rfl rfl rfl | exact Gd.want_mt rfl rfl rfl | exact Gd.want_mf rfl rfl rfl) ?_ ?_ ?_; rotate_left 3; (focus ((intro hb; have hb0 := hb; (try simp only [Bool.and_eq_true] at hb)); refine ⟨?_, ?_⟩ <;> (go_simp; (first | done | with_reducible rfl)))); (focus (with_reducible rfl)); (intro _ _)) | ((with_reducible refine Gd.isBin0 (ty := 4) ?_); refine Gd.qb (v := ?_) (e := ?_) (by rfl) (by rfl) (fun wx hS => ?_) ?_ ?_; rotate_left 2; (focus (go_simp; (first | done | with_reducible rfl))); (focus (with_reducible rfl)); (intro _ _)) | ((with_reducible refine Gd.isUn0 (ty := 4) ?_); refine Gd.qb (v := ?_) (e := ?_) (by rfl) (by rfl) (fun wx hS => ?_) ?_ ?_; rotate_left 2; (focus (go_simp; (first | done | with_reducible rfl))); (focus (with_reducible rfl)); (intro _ _)) | ((with_reducible refine Gd.isBin1 (ty := 4) ?_); refine Gd.gb (v := ?_) (e := ?_) (by rfl) (by first | exact Gd.want_t rfl rfl rfl | exact Gd.want_f rfl rfl rfl | exact Gd.want_mt rfl rfl rfl | exact Gd.want_mf rfl rfl rfl) ?_ ?_ ?_; rotate_left 2; (focus ((intro hb; have hb0 := hb; (try simp only [Bool.and_eq_true] at hb)); intro wx hS; go_simp; (first | done | with_reducible rfl))); (focus (with_reducible rfl)); (intro _ _)) | ((with_reducible refine Gd.isUn1 (ty := 4) ?_); refine Gd.gb (v := ?_) (e := ?_) (by rfl) (by first | exact Gd.want_t rfl rfl rfl | exact Gd.want_f rfl rfl rfl | exact Gd.want_mt rfl rfl rfl | exact Gd.want_mf rfl rfl rfl) ?_ ?_ ?_; rotate_left 2; (focus ((intro hb; have hb0 := hb; (try simp only [Bool.and_eq_true] at hb)); intro wx hS; go_simp; (first | done | with_reducible rfl))); (focus (with_reducible rfl)); (intro _ _)) | ((with_reducible refine Gd.is0 ?_); refine Gd.qp (v := ?_) (by rfl) (by rfl) (fun wx hS => ?_) ?_; rotate_left; (focus (go_simp; (first | done | with_reducible rfl)))) | ((with_reducible refine Gd.is1 ?_); refine Gd.gp (v := ?_) (by rfl) (by first | exact Gd.want_t rfl rfl rfl | exact Gd.want_f rfl rfl rfl | exact Gd.want_mt rfl rfl rfl | exact Gd.want_mf rfl rfl rfl) ?_ ?_; rotate_left; (focus ((intro hb; have hb0 := hb; (try simp only [Bool.and_eq_true] at hb)); intro wx hS; go_simp; (first | done | with_reducible rfl))))); (try simp only [Act.put, List.setIfInBounds_toArray, List.set_cons_zero, List.set_cons_succ]))
 refine Ch.done ?_
 rename_i d hd
 have hd2 : (((st : Int) == 13) || ((st : Int) == 15)) = d := or2c hd (by assumption) (by assumption)
 obtain rfl : dm = d := by rw [← hd2, HDM.out, Bool.eq_iff_iff]; simp; omega
 clear hd hd2
 go_upto_region 7 with (first | ((with_reducible refine Se.isL (o := ⟨some 44, _, _, _, _, _⟩) ?_); (refine Se.toL rfl (Se.ldw (o := ⟨some 44, _, _, _, _, _⟩) hs rfl rfl ((Reads.blk 2 rfl)) ((by rw [RLL.out]; kernel_rfl)) (by kernel_rfl) ?_))) | ((with_reducible refine Se.isL (o := ⟨some 10, _, _, _, _, _⟩) ?_); (refine Se.toL rfl (Se.al (o := ⟨some 10, _, _, _, _, _⟩) hs rfl (zRz'.out) ?_); clear hs; rintro w g10 - hs)) | ((with_reducible refine Se.isL (o := ⟨none, _, _, _, _, _⟩) ?_); (refine Se.toL rfl (Se.sow 0 hs rfl rfl rfl rfl (RLO.out) ((by rw [RLL.out]; kernel_rfl)) ((by rw [RLL.out, ZL0.out])) ?_); clear hs; intro w hs; try simp only [List.cons_append, List.nil_append, List.set_cons_zero] at hs)))
 go_upto_region 11 with (fail)
 refine Gd.plain 24 (fun wx => Blk wx g8 [iv st, iv p, iv rr] 67) (fun  | _ => false) rfl (hs.hold (.blk g8 67 [iv st, iv p, iv rr]) (by simp)) ?_
 change Ch.CW _ _ _ _ _ [0, 1, 2, 3, 4, 5, 6, 7, 8, 9, 10, 11, 12, 13, 14, 15, 16, 17, 18, 19, 20, 21, 22, 23] _ _
 iterate 24 (refine Gd.look (by rfl) ?_; (first | ((with_reducible refine Gd.isLoad0 ?_); first | (refine Gd.qp (v := _) (by rfl) (by rfl) (fun wx hS => Se.xl (by rfl) (by rfl) (by rw [(hS).cell]; rfl) (by decide +kernel)) ?_)) | ((with_reducible refine Gd.isLoad1 ?_); first | (refine Gd.gp (v := ?_) (by rfl) (by first | exact Gd.want_t rfl rfl rfl | exact Gd.want_f rfl rfl rfl | exact Gd.want_mt rfl rfl rfl | exact Gd.want_mf rfl rfl rfl) ?_ ?_; rotate_left; (focus ((intro hb; have hb0 := hb; (try simp only [Bool.and_eq_true] at hb)); intro wx hS; exact Se.xl (by rfl) (by exact Gd.mv_of hb0) (by rw [(hS).cell]; rfl) (by decide +kernel)))) | (refine Gd.gp (v := ?_) (by rfl) (by first | exact Gd.want_t rfl rfl rfl | exact Gd.want_f rfl rfl rfl | exact Gd.want_mt rfl rfl rfl | exact Gd.want_mf rfl rfl rfl) ?_ ?_; rotate_left; (focus ((intro hb; have hb0 := hb; (try simp only [Bool.and_eq_true] at hb)); intro wx hS; exact Se.xl (by rfl) (by rfl) (by rw [(hS).cell]; rfl) (by decide +kernel))))) | ((with_reducible refine Gd.isPick0 ?_); refine Gd.qpick (b := _) (v := ?_) (e := ?_) (by rfl) (by rfl) (by rfl) (by rfl) ?_ ?_ ?_; rotate_left 2; (focus (go_simp; (first | done | with_reducible rfl))); (focus (with_reducible rfl)); (intro _ _)) | ((with_reducible refine Gd.isPick1 ?_); refine Gd.gpick (b := ?_) (v := ?_) (e := ?_) (by rfl) (by rfl) (by first | exact Gd.want_t rfl rfl rfl | exact Gd.want_f rfl rfl rfl | exact Gd.want_mt rfl rfl rfl | exact Gd.want_mf rfl rfl rfl) ?_ ?_ ?_; rotate_left 3; (focus ((intro hb; have hb0 := hb; (try simp only [Bool.and_eq_true] at hb)); refine ⟨?_, ?_⟩ <;> (go_simp; (first | done | with_reducible rfl)))); (focus (with_reducible rfl)); (intro _ _)) | ((with_reducible refine Gd.isBin0 (ty := 4) ?_); refine Gd.qb (v := ?_) (e := ?_) (by rfl) (by rfl) (fun wx hS => ?_) ?_ ?_; rotate_left 2; (focus (go_simp; (first | done | with_reducible rfl))); (focus (with_reducible rfl)); (intro _ _)) | ((with_reducible refine Gd.isUn0 (ty := 4) ?_); refine Gd.qb (v := ?_) (e := ?_) (by rfl) (by rfl) (fun wx hS => ?_) ?_ ?_; rotate_left 2; (focus (go_simp; (first | done | with_reducible rfl))); (focus (with_reducible rfl)); (intro _ _)) | ((with_reducible refine Gd.isBin1 (ty := 4) ?_); refine Gd.gb (v := ?_) (e := ?_) (by rfl) (by first | exact Gd.want_t rfl rfl rfl | exact Gd.want_f rfl rfl rfl | exact Gd.want_mt rfl rfl rfl | exact Gd.want_mf rfl rfl rfl) ?_ ?_ ?_; rotate_left 2; (focus ((intro hb; have hb0 := hb; (try simp only [Bool.and_eq_true] at hb)); intro wx hS; go_simp; (first | done | with_reducible rfl))); (focus (with_reducible rfl)); (intro _ _)) | ((with_reducible refine Gd.isUn1 (ty := 4) ?_); refine Gd.gb (v := ?_) (e := ?_) (by rfl) (by first | exact Gd.want_t rfl rfl rfl | exact Gd.want_f rfl rfl rfl | exact Gd.want_mt rfl rfl rfl | exact Gd.want_mf rfl rfl rfl) ?_ ?_ ?_; rotate_left 2; (focus ((intro hb; have hb0 := hb; (try simp only [Bool.and_eq_true] at hb)); intro wx hS; go_simp; (first | done | with_reducible rfl))); (focus (with_reducible rfl)); (intro _ _)) | ((with_reducible refine Gd.is0 ?_); refine Gd.qp (v := ?_) (by rfl) (by rfl) (fun wx hS => ?_) ?_; rotate_left; (focus (go_simp; (first | done | with_reducible rfl)))) | ((with_reducible refine Gd.is1 ?_); refine Gd.gp (v := ?_) (by rfl) (by first | exact Gd.want_t rfl rfl rfl | exact Gd.want_f rfl rfl rfl | exact Gd.want_mt rfl rfl rfl | exact Gd.want_mf rfl rfl rfl) ?_ ?_; rotate_left; (focus ((intro hb; have hb0 := hb; (try simp only [Bool.and_eq_true] at hb)); intro wx hS; go_simp; (first | done | with_reducible rfl))))); (try simp only [Act.put, List.setIfInBounds_toArray, List.set_cons_zero, List.set_cons_succ]))
 refine Ch.done ?_
 rename_i cc hd
 have hd2 : (dm || (((st : Int) == 14) && (false || true)) || (((st : Int) == 1) && false)) = cc := man8 hd (by assumption) (by assumption) (by assumption) (by assumption) (by assumption) (by assumption) (by assumption) (by assumption) (by assumption)
 obtain rfl : bd = cc := by rw [← hd2, HBD.out, HDM.out, Bool.eq_iff_iff]; simp <;> omega
 clear hd hd2
 cases bd with
 | true =>
  clear GOOD GOD2 BAD2
  have HB := Lib.hid (BAD.out (by rfl))
  clear BAD CSE CO CQ HO
  go_wp2_with (first | ((with_reducible refine Se.isL (o := ⟨some 78, _, _, _, _, _⟩) ?_); (refine Se.toL rfl (Se.ldw (o := ⟨some 78, _, _, _, _, _⟩) hs rfl rfl ((Reads.blk 3 rfl)) ((by rw [RLL.out]; kernel_rfl)) (by kernel_rfl) ?_))) | ((with_reducible refine Se.isL (o := ⟨none, Op.store 43 _ _, _, _, _, _⟩) ?_); (refine Se.toL rfl (Se.sow 2 hs rfl rfl rfl rfl (RLO.out) ((by rw [RLL.out]; kernel_rfl)) ((by rw [RLL.out, ZL0.out])) ?_); clear hs; intro w hs; try simp only [List.cons_append, List.nil_append, List.set_cons_zero, List.set_cons_succ] at hs)))
  refine Se.ret hs [.agg RL.toArray, .int .i64 191] rfl ⟨Se.resRow rfl (Reads.blk 2 rfl) (by kernel_rfl) (by rw [RLL.out] <;> kernel_rfl), rfl, trivial⟩ (by simp) rfl ?_
  exact ⟨trivial, SAME.out 191 HB.out _ hs.drop.drop.drop.drop⟩
 | false =>
 cases b with
 | true =>
  clear GOD2 BAD2
  have HB := Lib.hid (GOOD.out (⟨3, p, rr⟩) (by exact ⟨⟨rfl, rfl⟩, rfl⟩))
  have CS := Lib.hid (CSE.out (⟨3, p, rr⟩))
  clear BAD GOOD CSE CQ SAME HO
  go_wp2_with (first | ((with_reducible refine Se.isL (o := ⟨some 83, _, _, _, _, _⟩) ?_); (refine Se.toL rfl (Se.ld (o := ⟨some 83, _, _, _, _, _⟩) hs rfl rfl (Cell.blk 1 rfl rfl) (by kernel_rfl) ?_))) | ((with_reducible refine Se.isL (o := ⟨none, _, _, _, _, _⟩) ?_); ((first | refine Se.toL rfl (Se.so 1 (v := .int _ _) hs rfl rfl rfl rfl rfl (by kernel_rfl) (by simp) ?_) | refine Se.toL rfl (Se.so 1 (v := .bool _) hs rfl rfl rfl rfl rfl (by kernel_rfl) (by simp) ?_) | refine Se.toL rfl (Se.so 1 (v := .slice _ _ _) hs rfl rfl rfl rfl rfl (by kernel_rfl) (by simp) ?_) | refine Se.toL rfl (Se.so 1 (v := .pointer _) hs rfl rfl rfl rfl rfl (by kernel_rfl) (by simp) ?_) | refine Se.toL rfl (Se.so 1 (v := .string _) hs rfl rfl rfl rfl rfl (by kernel_rfl) (by simp) ?_) | refine Se.toL rfl (Se.so 1 (v := .map _) hs rfl rfl rfl rfl rfl (by kernel_rfl) (by simp) ?_) | refine Se.toL rfl (Se.so 1 (v := .func _ _ _) hs rfl rfl rfl rfl rfl (by kernel_rfl) (by simp) ?_) | refine Se.toL rfl (Se.so 1 (v := .nilFunc) hs rfl rfl rfl rfl rfl (by kernel_rfl) (by simp) ?_)); clear hs; intro w hs; try simp only [List.cons_append, List.nil_append, List.set_cons_zero, List.set_cons_succ] at hs)) | ((with_reducible refine Se.isL (o := ⟨some 114, _, _, _, _, _⟩) ?_); (refine Se.toL rfl (Se.ldw (o := ⟨some 114, _, _, _, _, _⟩) hs rfl rfl ((Reads.blk 0 rfl)) ((by rw [RLL.out]; kernel_rfl)) (by kernel_rfl) ?_))) | ((with_reducible refine Se.isL (o := ⟨some 116, _, _, _, _, _⟩) ?_); (refine Se.toL rfl (Se.ldw (o := ⟨some 116, _, _, _, _, _⟩) hs rfl rfl ((Reads.blk 1 rfl)) ((by kernel_rfl)) (by kernel_rfl) ?_))) | ((with_reducible refine Se.isL (o := ⟨none, Op.store 43 _ _, _, _, _, _⟩) ?_); (refine Se.toL rfl (Se.sow 3 hs rfl rfl rfl rfl (hzn.one) ((by rw [hzn.len]; kernel_rfl)) ((by rw [hzn.len, ZL0.out])) ?_); clear hs; intro w hs; try simp only [List.cons_append, List.nil_append, List.set_cons_zero, List.set_cons_succ] at hs)) | (go_at_call 78; refine Calls.mono (CO.out _ _ hs) ?_; clear hs; rintro e w ⟨rfl, hs⟩) | (go_at_call 84; refine Calls.mono (CS.out [_, _, _, _] _ hs) ?_; clear hs; rintro e w ⟨A', ZN, rfl, hzn, hs⟩))
  refine Se.ret hs [.agg ZN.toArray, .int .i64 0] rfl ⟨Se.resRow rfl (Reads.blk 3 rfl) (by kernel_rfl) (by rw [hzn.len] <;> kernel_rfl), rfl, trivial⟩ (by simp) rfl ?_
  refine ⟨trivial, ?_⟩
  rw [HB.out]
  exact ⟨A', ZN, rfl, hzn, hs.sub (List.Sublist.cons_cons _ (.cons _ (.cons _ (.cons _ (.cons _ (List.Sublist.refl _))))))⟩
 | false =>
  obtain ⟨q, hq⟩ : ∃ q, q = opensE z i := ⟨_, rfl⟩
  rw [← hq] at GOD2 BAD2 CQ HOP
  have G2 := Lib.hid (fun xf h h2 => GOD2.out xf ⟨rfl, rfl⟩ h h2)
  have B2 := Lib.hid (fun h => BAD2.out ⟨rfl, rfl⟩ h)
  clear hq GOD2 BAD2 BAD GOOD CSE
  go_upto_region 16 with (first | ((with_reducible refine Se.isL (o := ⟨some 83, _, _, _, _, _⟩) ?_); (refine Se.toL rfl (Se.ld (o := ⟨some 83, _, _, _, _, _⟩) hs rfl rfl (Cell.blk 1 rfl rfl) (by kernel_rfl) ?_))) | ((with_reducible refine Se.isL (o := ⟨some 87, _, _, _, _, _⟩) ?_); (refine Se.toL rfl (Se.ldw (o := ⟨some 87, _, _, _, _, _⟩) hs rfl rfl ((Reads.blk 3 rfl)) ((by rw [RLL.out]; kernel_rfl)) (by kernel_rfl) ?_))) | ((with_reducible refine Se.isL (o := ⟨some 11, _, _, _, _, _⟩) ?_); (refine Se.toL rfl (Se.al (o := ⟨some 11, _, _, _, _, _⟩) hs rfl (zRz'.out) ?_); clear hs; rintro w g11 - hs)) | ((with_reducible refine Se.isL (o := ⟨none, _, _, _, _, _⟩) ?_); (refine Se.toL rfl (Se.sow 0 hs rfl rfl rfl rfl (hzn.one) ((by rw [hzn.len]; kernel_rfl)) ((by rw [hzn.len, ZL0.out])) ?_); clear hs; intro w hs; try simp only [List.cons_append, List.nil_append, List.set_cons_zero] at hs)) | (go_at_call 78; refine Calls.mono (CO.out _ _ hs) ?_; clear hs; rintro e w ⟨rfl, hs⟩) | (go_at_call 83; refine Calls.mono (CQ.out [_, _, _, _] _ hs) ?_; clear hs; rintro e w ⟨-, A', ZN, rfl, hzn, hs⟩))
  clear CO CQ
  have HNL := Lib.hid hzn.len
  have HNO := Lib.hid hzn.one
  by_cases hq0 : q.2 = 0
  rotate_left
  ·have HB := Lib.hid (B2.out hq0)
   obtain ⟨c2, hc2⟩ : ∃ c, c = q.2 := ⟨_, rfl⟩
   have vq : ((c2 : Int) != 0) = true := by simp; omega
   rw [← hc2] at HB ⊢
   clear hq0 hc2 G2 B2 hzn
   go_wp2_with (first | ((with_reducible refine Se.isL (o := ⟨some 94, _, _, _, _, _⟩) ?_); (refine Se.toL rfl (Se.ldw (o := ⟨some 94, _, _, _, _, _⟩) hs rfl rfl ((Reads.blk 5 rfl)) ((by rw [RLL.out]; kernel_rfl)) (by kernel_rfl) ?_))) | ((with_reducible refine Se.isL (o := ⟨none, Op.store 43 _ _, _, _, _, _⟩) ?_); (refine Se.toL rfl (Se.sow 4 hs rfl rfl rfl rfl (RLO.out) ((by rw [RLL.out]; kernel_rfl)) ((by rw [RLL.out, ZL0.out])) ?_); clear hs; intro w hs; try simp only [List.cons_append, List.nil_append, List.set_cons_zero, List.set_cons_succ] at hs)))
   refine Se.ret hs [.agg RL.toArray, .int .i64 (c2 : Int)] rfl ⟨Se.resRow rfl (Reads.blk 4 rfl) (by kernel_rfl) (by rw [RLL.out] <;> kernel_rfl), rfl, trivial⟩ (by simp) rfl ?_
   exact ⟨trivial, SAME.out c2 HB.out _ hs.drop.drop.drop.drop.drop.drop⟩
  have HB := Lib.hid (G2.out ⟨3, p, rr⟩ hq0 rfl)
  obtain ⟨c2, hc2⟩ : ∃ c, c = q.2 := ⟨_, rfl⟩
  have vq : ((c2 : Int) != 0) = false := by simp; omega
  rw [← hc2]
  have CS2 : Hid (∀ (M1 M : List At) (w : World), St w0 X (M1 ++ .rd A' (ocs q.1.l) :: M) w → Calls Try.prog 84 #[.agg ZN.toArray, .int .i64 (i : Int), .agg (oc ⟨3, p, rr⟩).toArray] w fun e w' => Q1 w0 X (M1 ++ .rd A' (ocs q.1.l) :: M) (putS q.1 i ⟨3, p, rr⟩) e w') := Lib.hid (fun M1 M w hs => rset' hs (List.mem_append.2 (.inr List.mem_cons_self)) HOP.out.1 hzn (by rw [HOP.out.2.2.2]; exact HII.out) _)
  clear hq0 hc2 G2 B2 hzn SAME HO
  go_wp2_with (first | ((with_reducible refine Se.isL (o := ⟨some 96, _, _, _, _, _⟩) ?_); (refine Se.toL rfl (Se.ldw (o := ⟨some 96, _, _, _, _, _⟩) hs rfl rfl ((Reads.blk 0 rfl)) ((by rw [HNL.out]; kernel_rfl)) (by kernel_rfl) ?_))) | ((with_reducible refine Se.isL (o := ⟨none, Op.store 43 _ _, _, _, _, _⟩) ?_); (refine Se.toL rfl (Se.sow 2 hs rfl rfl rfl rfl (HNO.out) ((by rw [HNL.out]; kernel_rfl)) ((by rw [HNL.out, RLL.out])) ?_); clear hs; intro w hs; try simp only [List.cons_append, List.nil_append, List.set_cons_zero, List.set_cons_succ] at hs)) | ((with_reducible refine Se.isL (o := ⟨none, _, _, _, _, _⟩) ?_); ((first | refine Se.toL rfl (Se.so 3 (v := .int _ _) hs rfl rfl rfl rfl rfl (by kernel_rfl) (by simp) ?_) | refine Se.toL rfl (Se.so 3 (v := .bool _) hs rfl rfl rfl rfl rfl (by kernel_rfl) (by simp) ?_) | refine Se.toL rfl (Se.so 3 (v := .slice _ _ _) hs rfl rfl rfl rfl rfl (by kernel_rfl) (by simp) ?_) | refine Se.toL rfl (Se.so 3 (v := .pointer _) hs rfl rfl rfl rfl rfl (by kernel_rfl) (by simp) ?_) | refine Se.toL rfl (Se.so 3 (v := .string _) hs rfl rfl rfl rfl rfl (by kernel_rfl) (by simp) ?_) | refine Se.toL rfl (Se.so 3 (v := .map _) hs rfl rfl rfl rfl rfl (by kernel_rfl) (by simp) ?_) | refine Se.toL rfl (Se.so 3 (v := .func _ _ _) hs rfl rfl rfl rfl rfl (by kernel_rfl) (by simp) ?_) | refine Se.toL rfl (Se.so 3 (v := .nilFunc) hs rfl rfl rfl rfl rfl (by kernel_rfl) (by simp) ?_)); clear hs; intro w hs; try simp only [List.cons_append, List.nil_append, List.set_cons_zero, List.set_cons_succ] at hs)) | ((with_reducible refine Se.isL (o := ⟨some 114, _, _, _, _, _⟩) ?_); (refine Se.toL rfl (Se.ldw (o := ⟨some 114, _, _, _, _, _⟩) hs rfl rfl ((Reads.blk 2 rfl)) ((by rw [HNL.out]; kernel_rfl)) (by kernel_rfl) ?_))) | ((with_reducible refine Se.isL (o := ⟨some 116, _, _, _, _, _⟩) ?_); (refine Se.toL rfl (Se.ldw (o := ⟨some 116, _, _, _, _, _⟩) hs rfl rfl ((Reads.blk 3 rfl)) ((by kernel_rfl)) (by kernel_rfl) ?_))) | ((with_reducible refine Se.isL (o := ⟨none, Op.store 43 _ _, _, _, _, _⟩) ?_); (refine Se.toL rfl (Se.sow 5 hs rfl rfl rfl rfl (hzf.one) ((by rw [hzf.len]; kernel_rfl)) ((by rw [hzf.len, ZL0.out])) ?_); clear hs; intro w hs; try simp only [List.cons_append, List.nil_append, List.set_cons_zero, List.set_cons_succ] at hs)) | (go_at_call 84; refine Calls.mono (CS2.out [_] _ _ hs) ?_; clear hs; rintro e w ⟨A2, ZF, rfl, hzf, hs⟩))
  refine Se.ret hs [.agg ZF.toArray, .int .i64 0] rfl ⟨Se.resRow rfl (Reads.blk 5 rfl) (by kernel_rfl) (by rw [hzf.len] <;> kernel_rfl), rfl, trivial⟩ (by simp) rfl ?_
  refine ⟨trivial, ?_⟩
  rw [HB.out]
  exact ⟨A2, ZF, rfl, hzf, hs.sub (List.Sublist.cons_cons _ (.cons _ (.cons _ (.cons _ (.cons _ (.cons _ (.cons _ (List.Sublist.refl _)))))))) ⟩
theorem rman4 {z : Zs} {A : Option Addr} {ZI : List Value} (hs : St w0 X L w) (hm : At.rd A (ocs z.l) ∈ L) (ho : OkZ z) (hz : RZ z A ZI) {i : Nat} (hi : i < z.l.length) :
  Calls Try.prog 50 #[.agg ZI.toArray, .int .i64 (i : Int), .int .i64 4] w fun e w' => True ∧ QR w0 X L (actE z i 4) e w' := by
 obtain ⟨cc, hRZ⟩ := hz
 obtain ⟨ga, oa, rfl, _, _⟩ := (hs.hold _ hm).cells (ocs_ne (by rw [ho.1]; exact ho.2.1))
 obtain ⟨RL, hRL⟩ : ∃ RL, RL = ZI := ⟨_, rfl⟩
 rw [← hRL]
 rw [hRZ] at hRL
 obtain ⟨k, hk⟩ : ∃ n, n = z.l.length := ⟨_, rfl⟩
 have hk1 : k ≤ 4096 := by rw [hk, ho.1]; exact ho.2.2.1
 have hk0 : 1 ≤ k := by rw [hk, ho.1]; exact ho.2.1
 have RLL := Lib.hid (show RL.length = 7 by rw [hRL]; rfl)
 have RLO := Lib.hid (show ∀ v ∈ RL, v.oneCell' = true by rw [hRL]; exact zcl_one _ _ _)
 have R5 := Lib.hid (show RL[5]? = some (.slice (some ⟨ga, oa, none⟩) k cc) by rw [hRL, hk]; rfl)
 obtain ⟨cap, hcap⟩ : ∃ n, n = z.c.cap := ⟨_, rfl⟩
 have R2 := Lib.hid (show RL[2]? = some (iv cap) by rw [hRL, hcap]; rfl)
 obtain ⟨l, hl⟩ : ∃ l, l = z.l := ⟨_, rfl⟩
 obtain ⟨x, hx⟩ : ∃ x, x = l.getD i dz := ⟨_, rfl⟩
 obtain ⟨st, hst⟩ : ∃ p, p = x.st := ⟨_, rfl⟩
 obtain ⟨p, hp⟩ : ∃ p, p = x.p := ⟨_, rfl⟩
 have hil : i < l.length := by rw [hl]; exact hi
 have hmr : Reads L (some ⟨ga, oa, none⟩) (ocs l) := by rw [hl]; exact Reads.rdm hm
 have C0 := Lib.hid (show Cell L ga (oa + i * 3) (iv st) from rcell hmr hil 0 (by decide) (by rw [hst, hx]; rfl))
 have C1 := Lib.hid (show Cell L ga (oa + i * 3 + 1) (iv p) from rcell hmr hil 1 (by decide) (by rw [hp, hx]; rfl))
 have HRX := Lib.hid (show Reads L (some ⟨ga, oa + i * 3, none⟩) (oc x) by rw [hx, getD_get hil]; exact row_at hmr hil)
 have hik : (i : Int) < (k : Int) := by rw [hk]; omega
 obtain ⟨rr, hrr⟩ : ∃ p, p = x.r := ⟨_, rfl⟩
 have hzr : RZ z (some ⟨ga, oa, none⟩) RL := ⟨cc, hRL⟩
 have SAME : Hid (∀ c, actE z i 4 = (z, c) → ∀ w, St w0 X L w → QR w0 X L (actE z i 4) (.returned (.tuple #[.agg RL.toArray, iv c])) w) := Lib.hid (fun c he w hs => by
  rw [he]
  exact ⟨_, _, rfl, hzr, hs.dup hm⟩)
 obtain ⟨RZ0, hRZ0⟩ : ∃ R, R = zcl { c := ⟨0, 0, 0, 0, 0⟩, l := [] } none 0 := ⟨_, rfl⟩
 have ZL0 := Lib.hid (show RZ0.length = 7 by rw [hRZ0]; rfl)
 have zRz' := Lib.hid zRz
 rw [← hRZ0] at zRz'
 clear hRZ0
 have hax := actE_x (z := z) (i := i) (a := 4) (x := x) (st := st) (by rw [hx, hl]) hst
 have HX := Lib.hid (show x = ⟨st, p, rr⟩ by rw [hst, hp, hrr])
 have HRX := Lib.hid (show Reads L (some ⟨ga, oa + i * 3, none⟩) [iv st, iv p, iv rr] by have h := HRX.out; rw [HX.out] at h; exact h)
 have CSE : Hid (∀ (xf : Zn) (M : List At) (w : World), St w0 X (M ++ L) w → Calls Try.prog 84 #[.agg RL.toArray, .int .i64 (i : Int), .agg (oc xf).toArray] w fun e w' => Q1 w0 X (M ++ L) (putS z i xf) e w') := Lib.hid (fun xf M w hs => rset' hs (memM hm M) ho hzr hi xf)
 obtain ⟨b, hb⟩ : ∃ b, b = opn st := ⟨_, rfl⟩
 have CO : Hid (∀ (L : List At) (w : World), St w0 X L w → Calls Try.prog 78 #[iv st] w fun e w' => e = .returned (.bool b) ∧ St w0 X L w') := Lib.hid (fun L w hs => by rw [hb]; exact ropen_v hs st)
 have CQ : Hid (∀ (M : List At) (w : World), St w0 X (M ++ L) w → Calls Try.prog 83 #[.agg RL.toArray, .int .i64 (i : Int)] w fun e' w' => True ∧ QR w0 X (M ++ L) (opensE z i) e' w') := Lib.hid (fun M w hs => ropens_st hs (memM hm M) ho hzr hi)
 have HOP := Lib.hid (ho.opens i)
 have HKZ := Lib.hid hk
 have HBO := Lib.hid hb
 have HCAP := Lib.hid hcap
 have HO := Lib.hid ho
 rw [HX.out] at hax
 have HIX := Lib.hid (show z.l.getD i dz = ⟨st, p, rr⟩ by rw [← HX.out, hx, hl])
 have HII := Lib.hid hi
 obtain ⟨dm, hdm⟩ : ∃ b : Bool, b = decide (st = 13 ∨ st = 15) := ⟨_, rfl⟩
 obtain ⟨bd, hbd⟩ : ∃ b : Bool, b = decide (st = 13 ∨ st = 15 ∨ False) := ⟨_, rfl⟩
 have hiff : (st = 13 ∨ st = 15 ∨ st = 14 ∧ (4 = 1 ∨ 4 = 3) ∨ st = 1 ∧ 4 = 1) ↔ (st = 13 ∨ st = 15 ∨ False) := by first | omega | simp
 have BAD : Hid (bd = true → actE z i 4 = (z, 191)) := Lib.hid (fun h => by rw [hbd, decide_eq_true_eq] at h; rw [hax, if_neg (by decide), if_pos (hiff.2 h)])
 have NB : bd = false → ¬ (st = 13 ∨ st = 15 ∨ st = 14 ∧ (4 = 1 ∨ 4 = 3) ∨ st = 1 ∧ 4 = 1) := fun h q => by rw [hbd, decide_eq_false_iff_not] at h; exact h (hiff.1 q)
 have GOOD : Hid (∀ xf : Zn, (bd = false ∧ xf = ⟨1, 0, rr⟩) → actE z i 4 = (putS z i xf, 0)) := Lib.hid (fun xf h => by rw [hax, if_neg (by decide), if_neg (NB h.1), if_neg (by decide), if_neg (by decide), if_neg (by decide), h.2])
 have HDM := Lib.hid hdm
 have HBD := Lib.hid hbd
 clear hbd NB hiff hax hdm hb hRL hRZ hk hcap ho hm hzr hl hx hst hp hrr hil hmr hi
 have v1 : decide ((i : Int) < 0) = false := by simp
 have v2 : decide ((k : Int) ≤ (i : Int)) = false := by simp; omega
 go_enter Try.func50, Try.ntmps50
 go_upto_region 4 with (first | ((with_reducible refine Se.isL (o := ⟨some 6, _, _, _, _, _⟩) ?_); (refine Se.toL rfl (Se.al (o := ⟨some 6, _, _, _, _, _⟩) hs rfl (zRz'.out) ?_); clear hs; rintro w g6 - hs)) | ((with_reducible refine Se.isL (o := ⟨some 18, _, _, _, _, _⟩) ?_); (refine Se.toL rfl (Se.ld (o := ⟨some 18, _, _, _, _, _⟩) hs rfl rfl (Cell.blk 1 rfl R5.out) (by kernel_rfl) ?_))) | ((with_reducible refine Se.isL (o := ⟨some 32, _, _, _, _, _⟩) ?_); (refine Se.toL rfl (Se.ld (o := ⟨some 32, _, _, _, _, _⟩) hs rfl rfl (Cell.blk 1 rfl R5.out) (by kernel_rfl) ?_))) | ((with_reducible refine Se.isL (o := ⟨some 35, _, _, _, _, _⟩) ?_); (refine Se.toL rfl (Se.ldw (o := ⟨some 35, _, _, _, _, _⟩) hs rfl rfl ((HRX.out.app [_, _])) ((by kernel_rfl)) (by kernel_rfl) ?_))) | ((with_reducible refine Se.isL (o := ⟨some 8, _, _, _, _, _⟩) ?_); (refine Se.toL rfl (Se.al (o := ⟨some 8, _, _, _, _, _⟩) hs rfl (zRo) ?_); clear hs; rintro w g8 - hs)) | ((with_reducible refine Se.isL (o := ⟨none, Op.store 67 _ _, _, _, _, _⟩) ?_); (refine Se.toL rfl (Se.sow 0 hs rfl rfl rfl rfl ((by simp [Value.oneCell'])) ((by kernel_rfl)) (rfl) ?_); clear hs; intro w hs; try simp only [List.cons_append, List.nil_append, List.set_cons_zero] at hs)) | ((first | with_reducible refine Se.ab hs ?_ | with_reducible refine Se.abc hs ?_); clear hs; (first | (generalize w.heap.size = g3; intro w hs))))
 clear v1 v2
 refine Gd.plain 9 (fun wx => Blk wx g8 [iv st, iv p, iv rr] 67) (fun  | _ => false) rfl (hs.hold (.blk g8 67 [iv st, iv p, iv rr]) (by simp)) ?_
 change Ch.CW _ _ _ _ _ [0, 1, 2, 3, 4, 5, 6, 7, 8] _ _
 iterate 9 (refine Gd.look (by rfl) ?_; (first | ((with_reducible refine Gd.isLoad0 ?_); first | (refine Gd.qp (v := _) (by rfl) (by rfl) (fun wx hS => Se.xl (by rfl) (by rfl) (by rw [(hS).cell]; rfl) (by decide +kernel)) ?_)) | ((with_reducible refine Gd.isLoad1 ?_); first | (refine Gd.gp (v := ?_) (by rfl) (by first | exact Gd.want_t rfl rfl rfl | exact Gd.want_f rfl rfl rfl | exact Gd.want_mt rfl rfl rfl | exact Gd.want_mf rfl rfl rfl) ?_ ?_; rotate_left; (focus ((intro hb; have hb0 := hb; (try simp only [Bool.and_eq_true] at hb)); intro wx hS; exact Se.xl (by rfl) (by exact Gd.mv_of hb0) (by rw [(hS).cell]; rfl) (by decide +kernel)))) | (refine Gd.gp (v := ?_) (by rfl) (by first | exact Gd.want_t rfl rfl rfl | exact Gd.want_f rfl rfl rfl | exact Gd.want_mt rfl rfl rfl | exact Gd.want_mf rfl rfl rfl) ?_ ?_; rotate_left; (focus ((intro hb; have hb0 := hb; (try simp only [Bool.and_eq_true] at hb)); intro wx hS; exact Se.xl (by rfl) (by rfl) (by rw [(hS).cell]; rfl) (by decide +kernel))))) | ((with_reducible refine Gd.isPick0 ?_); refine Gd.qpick (b := _) (v := ?_) (e := ?_) (by rfl) (by rfl) (by rfl) (by rfl) ?_ ?_ ?_; rotate_left 2; (focus (go_simp; (first | done | with_reducible rfl))); (focus (with_reducible rfl)); (intro _ _)) | ((with_reducible refine Gd.isPick1 ?_); refine Gd.gpick (b := ?_) (v := ?_) (e := ?_) (by rfl) (by rfl) (by first | exact Gd.want_t rfl rfl rfl | exact Gd.want_f rfl rfl rfl | exact Gd.want_mt rfl rfl rfl | exact Gd.want_mf rfl rfl rfl) ?_ ?_ ?_; rotate_left 3; (focus ((intro hb; have hb0 := hb; (try simp only [Bool.and_eq_true] at hb)); refine ⟨?_, ?_⟩ <;> (go_simp; (first | done | with_reducible rfl)))); (focus (with_reducible rfl)); (intro _ _)) | ((with_reducible refine Gd.isBin0 (ty := 4) ?_); refine Gd.qb (v := ?_) (e := ?_) (by rfl) (by rfl) (fun wx hS => ?_) ?_ ?_; rotate_left 2; (focus (go_simp; (first | done | with_reducible rfl))); (focus (with_reducible rfl)); (intro _ _)) | ((with_reducible refine Gd.isUn0 (ty := 4) ?_); refine Gd.qb (v := ?_) (e := ?_) (by rfl) (by rfl) (fun wx hS => ?_) ?_ ?_; rotate_left 2; (focus (go_simp; (first | done | with_reducible rfl))); (focus (with_reducible rfl)); (intro _ _)) | ((with_reducible refine Gd.isBin1 (ty := 4) ?_); refine Gd.gb (v := ?_) (e := ?_) (by rfl) (by first | exact Gd.want_t rfl rfl rfl | exact Gd.want_f rfl rfl rfl | exact Gd.want_mt rfl rfl rfl | exact Gd.want_mf rfl rfl rfl) ?_ ?_ ?_; rotate_left 2; (focus ((intro hb; have hb0 := hb; (try simp only [Bool.and_eq_true] at hb)); intro wx hS; go_simp; (first | done | with_reducible rfl))); (focus (with_reducible rfl)); (intro _ _)) | ((with_reducible refine Gd.isUn1 (ty := 4) ?_); refine Gd.gb (v := ?_) (e := ?_) (by rfl) (by first | exact Gd.want_t rfl rfl rfl | exact Gd.want_f rfl rfl rfl | exact Gd.want_mt rfl rfl rfl | exact Gd.want_mf rfl rfl rfl) ?_ ?_ ?_; rotate_left 2; (focus ((intro hb; have hb0 := hb; (try simp only [Bool.and_eq_true] at hb)); intro wx hS; go_simp; (first | done | with_reducible rfl))); (focus (with_reducible rfl)); (intro _ _)) | ((with_reducible refine Gd.is0 ?_); refine Gd.qp (v := ?_) (by rfl) (by rfl) (fun wx hS => ?_) ?_; rotate_left; (focus (go_simp; (first | done | with_reducible rfl)))) | ((with_reducible refine Gd.is1 ?_); refine Gd.gp (v := ?_) (by rfl) (by first | exact Gd.want_t rfl rfl rfl | exact Gd.want_f rfl rfl rfl | exact Gd.want_mt rfl rfl rfl | exact Gd.want_mf rfl rfl rfl) ?_ ?_; rotate_left; (focus ((intro hb; have hb0 := hb; (try simp only [Bool.and_eq_true] at hb)); intro wx hS; go_simp; (first | done | with_reducible rfl))))); (try simp only [Act.put, List.setIfInBounds_toArray, List.set_cons_zero, List.set_cons_succ]))
 refine Ch.done ?_
 rename_i d hd
 have hd2 : (((st : Int) == 13) || ((st : Int) == 15)) = d := or2c hd (by assumption) (by assumption)
 obtain rfl : dm = d := by rw [← hd2, HDM.out, Bool.eq_iff_iff]; simp; omega
 clear hd hd2
 go_upto_region 7 with (first | ((with_reducible refine Se.isL (o := ⟨some 44, _, _, _, _, _⟩) ?_); (refine Se.toL rfl (Se.ldw (o := ⟨some 44, _, _, _, _, _⟩) hs rfl rfl ((Reads.blk 2 rfl)) ((by rw [RLL.out]; kernel_rfl)) (by kernel_rfl) ?_))) | ((with_reducible refine Se.isL (o := ⟨some 10, _, _, _, _, _⟩) ?_); (refine Se.toL rfl (Se.al (o := ⟨some 10, _, _, _, _, _⟩) hs rfl (zRz'.out) ?_); clear hs; rintro w g10 - hs)) | ((with_reducible refine Se.isL (o := ⟨none, _, _, _, _, _⟩) ?_); (refine Se.toL rfl (Se.sow 0 hs rfl rfl rfl rfl (RLO.out) ((by rw [RLL.out]; kernel_rfl)) ((by rw [RLL.out, ZL0.out])) ?_); clear hs; intro w hs; try simp only [List.cons_append, List.nil_append, List.set_cons_zero] at hs)))
 go_upto_region 11 with (fail)
 refine Gd.plain 24 (fun wx => Blk wx g8 [iv st, iv p, iv rr] 67) (fun  | _ => false) rfl (hs.hold (.blk g8 67 [iv st, iv p, iv rr]) (by simp)) ?_
 change Ch.CW _ _ _ _ _ [0, 1, 2, 3, 4, 5, 6, 7, 8, 9, 10, 11, 12, 13, 14, 15, 16, 17, 18, 19, 20, 21, 22, 23] _ _
 iterate 24 (refine Gd.look (by rfl) ?_; (first | ((with_reducible refine Gd.isLoad0 ?_); first | (refine Gd.qp (v := _) (by rfl) (by rfl) (fun wx hS => Se.xl (by rfl) (by rfl) (by rw [(hS).cell]; rfl) (by decide +kernel)) ?_)) | ((with_reducible refine Gd.isLoad1 ?_); first | (refine Gd.gp (v := ?_) (by rfl) (by first | exact Gd.want_t rfl rfl rfl | exact Gd.want_f rfl rfl rfl | exact Gd.want_mt rfl rfl rfl | exact Gd.want_mf rfl rfl rfl) ?_ ?_; rotate_left; (focus ((intro hb; have hb0 := hb; (try simp only [Bool.and_eq_true] at hb)); intro wx hS; exact Se.xl (by rfl) (by exact Gd.mv_of hb0) (by rw [(hS).cell]; rfl) (by decide +kernel)))) | (refine Gd.gp (v := ?_) (by rfl) (by first | exact Gd.want_t rfl rfl rfl | exact Gd.want_f rfl rfl rfl | exact Gd.want_mt rfl rfl rfl | exact Gd.want_mf rfl rfl rfl) ?_ ?_; rotate_left; (focus ((intro hb; have hb0 := hb; (try simp only [Bool.and_eq_true] at hb)); intro wx hS; exact Se.xl (by rfl) (by rfl) (by rw [(hS).cell]; rfl) (by decide +kernel))))) | ((with_reducible refine Gd.isPick0 ?_); refine Gd.qpick (b := _) (v := ?_) (e := ?_) (by rfl) (by rfl) (by rfl) (by rfl) ?_ ?_ ?_; rotate_left 2; (focus (go_simp; (first | done | with_reducible rfl))); (focus (with_reducible rfl)); (intro _ _)) | ((with_reducible refine Gd.isPick1 ?_); refine Gd.gpick (b := ?_) (v := ?_) (e := ?_) (by rfl) (by rfl) (by first | exact Gd.want_t rfl rfl rfl | exact Gd.want_f rfl rfl rfl | exact Gd.want_mt rfl rfl rfl | exact Gd.want_mf rfl rfl rfl) ?_ ?_ ?_; rotate_left 3; (focus ((intro hb; have hb0 := hb; (try simp only [Bool.and_eq_true] at hb)); refine ⟨?_, ?_⟩ <;> (go_simp; (first | done | with_reducible rfl)))); (focus (with_reducible rfl)); (intro _ _)) | ((with_reducible refine Gd.isBin0 (ty := 4) ?_); refine Gd.qb (v := ?_) (e := ?_) (by rfl) (by rfl) (fun wx hS => ?_) ?_ ?_; rotate_left 2; (focus (go_simp; (first | done | with_reducible rfl))); (focus (with_reducible rfl)); (intro _ _)) | ((with_reducible refine Gd.isUn0 (ty := 4) ?_); refine Gd.qb (v := ?_) (e := ?_) (by rfl) (by rfl) (fun wx hS => ?_) ?_ ?_; rotate_left 2; (focus (go_simp; (first | done | with_reducible rfl))); (focus (with_reducible rfl)); (intro _ _)) | ((with_reducible refine Gd.isBin1 (ty := 4) ?_); refine Gd.gb (v := ?_) (e := ?_) (by rfl) (by first | exact Gd.want_t rfl rfl rfl | exact Gd.want_f rfl rfl rfl | exact Gd.want_mt rfl rfl rfl | exact Gd.want_mf rfl rfl rfl) ?_ ?_ ?_; rotate_left 2; (focus ((intro hb; have hb0 := hb; (try simp only [Bool.and_eq_true] at hb)); intro wx hS; go_simp; (first | done | with_reducible rfl))); (focus (with_reducible rfl)); (intro _ _)) | ((with_reducible refine Gd.isUn1 (ty := 4) ?_); refine Gd.gb (v := ?_) (e := ?_) (by rfl) (by first | exact Gd.want_t rfl rfl rfl | exact Gd.want_f rfl rfl rfl | exact Gd.want_mt rfl rfl rfl | exact Gd.want_mf rfl rfl rfl) ?_ ?_ ?_; rotate_left 2; (focus ((intro hb; have hb0 := hb; (try simp only [Bool.and_eq_true] at hb)); intro wx hS; go_simp; (first | done | with_reducible rfl))); (focus (with_reducible rfl)); (intro _ _)) | ((with_reducible refine Gd.is0 ?_); refine Gd.qp (v := ?_) (by rfl) (by rfl) (fun wx hS => ?_) ?_; rotate_left; (focus (go_simp; (first | done | with_reducible rfl)))) | ((with_reducible refine Gd.is1 ?_); refine Gd.gp (v := ?_) (by rfl) (by first | exact Gd.want_t rfl rfl rfl | exact Gd.want_f rfl rfl rfl | exact Gd.want_mt rfl rfl rfl | exact Gd.want_mf rfl rfl rfl) ?_ ?_; rotate_left; (focus ((intro hb; have hb0 := hb; (try simp only [Bool.and_eq_true] at hb)); intro wx hS; go_simp; (first | done | with_reducible rfl))))); (try simp only [Act.put, List.setIfInBounds_toArray, List.set_cons_zero, List.set_cons_succ]))
 refine Ch.done ?_
 rename_i cc hd
 have hd2 : (dm || (((st : Int) == 14) && (false || false)) || (((st : Int) == 1) && false)) = cc := man8 hd (by assumption) (by assumption) (by assumption) (by assumption) (by assumption) (by assumption) (by assumption) (by assumption) (by assumption)
 obtain rfl : bd = cc := by rw [← hd2, HBD.out, HDM.out, Bool.eq_iff_iff]; simp <;> omega
 clear hd hd2
 cases bd with
 | true =>
  clear GOOD
  have HB := Lib.hid (BAD.out (by rfl))
  clear BAD CSE CO CQ HO
  go_wp2_with (first | ((with_reducible refine Se.isL (o := ⟨some 78, _, _, _, _, _⟩) ?_); (refine Se.toL rfl (Se.ldw (o := ⟨some 78, _, _, _, _, _⟩) hs rfl rfl ((Reads.blk 3 rfl)) ((by rw [RLL.out]; kernel_rfl)) (by kernel_rfl) ?_))) | ((with_reducible refine Se.isL (o := ⟨none, Op.store 43 _ _, _, _, _, _⟩) ?_); (refine Se.toL rfl (Se.sow 2 hs rfl rfl rfl rfl (RLO.out) ((by rw [RLL.out]; kernel_rfl)) ((by rw [RLL.out, ZL0.out])) ?_); clear hs; intro w hs; try simp only [List.cons_append, List.nil_append, List.set_cons_zero, List.set_cons_succ] at hs)))
  refine Se.ret hs [.agg RL.toArray, .int .i64 191] rfl ⟨Se.resRow rfl (Reads.blk 2 rfl) (by kernel_rfl) (by rw [RLL.out] <;> kernel_rfl), rfl, trivial⟩ (by simp) rfl ?_
  exact ⟨trivial, SAME.out 191 HB.out _ hs.drop.drop.drop.drop⟩
 | false =>
 have HB := Lib.hid (GOOD.out (⟨1, 0, rr⟩) (by exact ⟨rfl, rfl⟩))
 have CS := Lib.hid (CSE.out (⟨1, 0, rr⟩))
 clear BAD GOOD CSE CO CQ SAME HO
 go_wp2_with (first | ((with_reducible refine Se.isL (o := ⟨none, _, _, _, _, _⟩) ?_); ((first | refine Se.toL rfl (Se.so 1 (v := .int _ _) hs rfl rfl rfl rfl rfl (by kernel_rfl) (by simp) ?_) | refine Se.toL rfl (Se.so 1 (v := .bool _) hs rfl rfl rfl rfl rfl (by kernel_rfl) (by simp) ?_) | refine Se.toL rfl (Se.so 1 (v := .slice _ _ _) hs rfl rfl rfl rfl rfl (by kernel_rfl) (by simp) ?_) | refine Se.toL rfl (Se.so 1 (v := .pointer _) hs rfl rfl rfl rfl rfl (by kernel_rfl) (by simp) ?_) | refine Se.toL rfl (Se.so 1 (v := .string _) hs rfl rfl rfl rfl rfl (by kernel_rfl) (by simp) ?_) | refine Se.toL rfl (Se.so 1 (v := .map _) hs rfl rfl rfl rfl rfl (by kernel_rfl) (by simp) ?_) | refine Se.toL rfl (Se.so 1 (v := .func _ _ _) hs rfl rfl rfl rfl rfl (by kernel_rfl) (by simp) ?_) | refine Se.toL rfl (Se.so 1 (v := .nilFunc) hs rfl rfl rfl rfl rfl (by kernel_rfl) (by simp) ?_)); clear hs; intro w hs; try simp only [List.cons_append, List.nil_append, List.set_cons_zero, List.set_cons_succ] at hs)) | ((with_reducible refine Se.isL (o := ⟨some 114, _, _, _, _, _⟩) ?_); (refine Se.toL rfl (Se.ldw (o := ⟨some 114, _, _, _, _, _⟩) hs rfl rfl ((Reads.blk 0 rfl)) ((by rw [RLL.out]; kernel_rfl)) (by kernel_rfl) ?_))) | ((with_reducible refine Se.isL (o := ⟨some 116, _, _, _, _, _⟩) ?_); (refine Se.toL rfl (Se.ldw (o := ⟨some 116, _, _, _, _, _⟩) hs rfl rfl ((Reads.blk 1 rfl)) ((by kernel_rfl)) (by kernel_rfl) ?_))) | ((with_reducible refine Se.isL (o := ⟨none, Op.store 43 _ _, _, _, _, _⟩) ?_); (refine Se.toL rfl (Se.sow 3 hs rfl rfl rfl rfl (hzn.one) ((by rw [hzn.len]; kernel_rfl)) ((by rw [hzn.len, ZL0.out])) ?_); clear hs; intro w hs; try simp only [List.cons_append, List.nil_append, List.set_cons_zero, List.set_cons_succ] at hs)) | (go_at_call 84; refine Calls.mono (CS.out [_, _, _, _] _ hs) ?_; clear hs; rintro e w ⟨A', ZN, rfl, hzn, hs⟩))
 refine Se.ret hs [.agg ZN.toArray, .int .i64 0] rfl ⟨Se.resRow rfl (Reads.blk 3 rfl) (by kernel_rfl) (by rw [hzn.len] <;> kernel_rfl), rfl, trivial⟩ (by simp) rfl ?_
 refine ⟨trivial, ?_⟩
 rw [HB.out]
 exact ⟨A', ZN, rfl, hzn, hs.sub (List.Sublist.cons_cons _ (.cons _ (.cons _ (.cons _ (.cons _ (List.Sublist.refl _))))))⟩
theorem rman5 {z : Zs} {A : Option Addr} {ZI : List Value} (hs : St w0 X L w) (hm : At.rd A (ocs z.l) ∈ L) (ho : OkZ z) (hz : RZ z A ZI) {i : Nat} (hi : i < z.l.length) :
  Calls Try.prog 50 #[.agg ZI.toArray, .int .i64 (i : Int), .int .i64 5] w fun e w' => True ∧ QR w0 X L (actE z i 5) e w' := by
 obtain ⟨cc, hRZ⟩ := hz
 obtain ⟨ga, oa, rfl, _, _⟩ := (hs.hold _ hm).cells (ocs_ne (by rw [ho.1]; exact ho.2.1))
 obtain ⟨RL, hRL⟩ : ∃ RL, RL = ZI := ⟨_, rfl⟩
 rw [← hRL]
 rw [hRZ] at hRL
 obtain ⟨k, hk⟩ : ∃ n, n = z.l.length := ⟨_, rfl⟩
 have hk1 : k ≤ 4096 := by rw [hk, ho.1]; exact ho.2.2.1
 have hk0 : 1 ≤ k := by rw [hk, ho.1]; exact ho.2.1
 have RLL := Lib.hid (show RL.length = 7 by rw [hRL]; rfl)
 have RLO := Lib.hid (show ∀ v ∈ RL, v.oneCell' = true by rw [hRL]; exact zcl_one _ _ _)
 have R5 := Lib.hid (show RL[5]? = some (.slice (some ⟨ga, oa, none⟩) k cc) by rw [hRL, hk]; rfl)
 obtain ⟨cap, hcap⟩ : ∃ n, n = z.c.cap := ⟨_, rfl⟩
 have R2 := Lib.hid (show RL[2]? = some (iv cap) by rw [hRL, hcap]; rfl)
 obtain ⟨l, hl⟩ : ∃ l, l = z.l := ⟨_, rfl⟩
 obtain ⟨x, hx⟩ : ∃ x, x = l.getD i dz := ⟨_, rfl⟩
 obtain ⟨st, hst⟩ : ∃ p, p = x.st := ⟨_, rfl⟩
 obtain ⟨p, hp⟩ : ∃ p, p = x.p := ⟨_, rfl⟩
 have hil : i < l.length := by rw [hl]; exact hi
 have hmr : Reads L (some ⟨ga, oa, none⟩) (ocs l) := by rw [hl]; exact Reads.rdm hm
 have C0 := Lib.hid (show Cell L ga (oa + i * 3) (iv st) from rcell hmr hil 0 (by decide) (by rw [hst, hx]; rfl))
 have C1 := Lib.hid (show Cell L ga (oa + i * 3 + 1) (iv p) from rcell hmr hil 1 (by decide) (by rw [hp, hx]; rfl))
 have HRX := Lib.hid (show Reads L (some ⟨ga, oa + i * 3, none⟩) (oc x) by rw [hx, getD_get hil]; exact row_at hmr hil)
 have hik : (i : Int) < (k : Int) := by rw [hk]; omega
 obtain ⟨rr, hrr⟩ : ∃ p, p = x.r := ⟨_, rfl⟩
 have hzr : RZ z (some ⟨ga, oa, none⟩) RL := ⟨cc, hRL⟩
 have SAME : Hid (∀ c, actE z i 5 = (z, c) → ∀ w, St w0 X L w → QR w0 X L (actE z i 5) (.returned (.tuple #[.agg RL.toArray, iv c])) w) := Lib.hid (fun c he w hs => by
  rw [he]
  exact ⟨_, _, rfl, hzr, hs.dup hm⟩)
 obtain ⟨RZ0, hRZ0⟩ : ∃ R, R = zcl { c := ⟨0, 0, 0, 0, 0⟩, l := [] } none 0 := ⟨_, rfl⟩
 have ZL0 := Lib.hid (show RZ0.length = 7 by rw [hRZ0]; rfl)
 have zRz' := Lib.hid zRz
 rw [← hRZ0] at zRz'
 clear hRZ0
 have hax := actE_x (z := z) (i := i) (a := 5) (x := x) (st := st) (by rw [hx, hl]) hst
 have HX := Lib.hid (show x = ⟨st, p, rr⟩ by rw [hst, hp, hrr])
 have HRX := Lib.hid (show Reads L (some ⟨ga, oa + i * 3, none⟩) [iv st, iv p, iv rr] by have h := HRX.out; rw [HX.out] at h; exact h)
 have CSE : Hid (∀ (xf : Zn) (M : List At) (w : World), St w0 X (M ++ L) w → Calls Try.prog 84 #[.agg RL.toArray, .int .i64 (i : Int), .agg (oc xf).toArray] w fun e w' => Q1 w0 X (M ++ L) (putS z i xf) e w') := Lib.hid (fun xf M w hs => rset' hs (memM hm M) ho hzr hi xf)
 obtain ⟨b, hb⟩ : ∃ b, b = opn st := ⟨_, rfl⟩
 have CO : Hid (∀ (L : List At) (w : World), St w0 X L w → Calls Try.prog 78 #[iv st] w fun e w' => e = .returned (.bool b) ∧ St w0 X L w') := Lib.hid (fun L w hs => by rw [hb]; exact ropen_v hs st)
 have CQ : Hid (∀ (M : List At) (w : World), St w0 X (M ++ L) w → Calls Try.prog 83 #[.agg RL.toArray, .int .i64 (i : Int)] w fun e' w' => True ∧ QR w0 X (M ++ L) (opensE z i) e' w') := Lib.hid (fun M w hs => ropens_st hs (memM hm M) ho hzr hi)
 have HOP := Lib.hid (ho.opens i)
 have HKZ := Lib.hid hk
 have HBO := Lib.hid hb
 have HCAP := Lib.hid hcap
 have HO := Lib.hid ho
 rw [HX.out] at hax
 have HIX := Lib.hid (show z.l.getD i dz = ⟨st, p, rr⟩ by rw [← HX.out, hx, hl])
 have HII := Lib.hid hi
 obtain ⟨dm, hdm⟩ : ∃ b : Bool, b = decide (st = 13 ∨ st = 15) := ⟨_, rfl⟩
 have BAD : Hid (dm = false → actE z i 5 = (z, 191)) := Lib.hid (fun h => by rw [hdm, decide_eq_false_iff_not] at h; rw [hax, if_pos rfl, if_neg h])
 have GOOD : Hid (∀ xf : Zn, (dm = true ∧ xf = ⟨15, p, rr⟩) → actE z i 5 = (putS z i xf, 0)) := Lib.hid (fun xf h => by rw [hdm, decide_eq_true_eq] at h; rw [hax, if_pos rfl, if_pos h.1, h.2])
 have HDM := Lib.hid hdm
 clear hax hdm hb hRL hRZ hk hcap ho hm hzr hl hx hst hp hrr hil hmr hi
 have v1 : decide ((i : Int) < 0) = false := by simp
 have v2 : decide ((k : Int) ≤ (i : Int)) = false := by simp; omega
 go_enter Try.func50, Try.ntmps50
 go_upto_region 4 with (first | ((with_reducible refine Se.isL (o := ⟨some 6, _, _, _, _, _⟩) ?_); (refine Se.toL rfl (Se.al (o := ⟨some 6, _, _, _, _, _⟩) hs rfl (zRz'.out) ?_); clear hs; rintro w g6 - hs)) | ((with_reducible refine Se.isL (o := ⟨some 18, _, _, _, _, _⟩) ?_); (refine Se.toL rfl (Se.ld (o := ⟨some 18, _, _, _, _, _⟩) hs rfl rfl (Cell.blk 1 rfl R5.out) (by kernel_rfl) ?_))) | ((with_reducible refine Se.isL (o := ⟨some 32, _, _, _, _, _⟩) ?_); (refine Se.toL rfl (Se.ld (o := ⟨some 32, _, _, _, _, _⟩) hs rfl rfl (Cell.blk 1 rfl R5.out) (by kernel_rfl) ?_))) | ((with_reducible refine Se.isL (o := ⟨some 35, _, _, _, _, _⟩) ?_); (refine Se.toL rfl (Se.ldw (o := ⟨some 35, _, _, _, _, _⟩) hs rfl rfl ((HRX.out.app [_, _])) ((by kernel_rfl)) (by kernel_rfl) ?_))) | ((with_reducible refine Se.isL (o := ⟨some 8, _, _, _, _, _⟩) ?_); (refine Se.toL rfl (Se.al (o := ⟨some 8, _, _, _, _, _⟩) hs rfl (zRo) ?_); clear hs; rintro w g8 - hs)) | ((with_reducible refine Se.isL (o := ⟨none, Op.store 67 _ _, _, _, _, _⟩) ?_); (refine Se.toL rfl (Se.sow 0 hs rfl rfl rfl rfl ((by simp [Value.oneCell'])) ((by kernel_rfl)) (rfl) ?_); clear hs; intro w hs; try simp only [List.cons_append, List.nil_append, List.set_cons_zero] at hs)) | ((first | with_reducible refine Se.ab hs ?_ | with_reducible refine Se.abc hs ?_); clear hs; (first | (generalize w.heap.size = g3; intro w hs))))
 clear v1 v2
 refine Gd.plain 9 (fun wx => Blk wx g8 [iv st, iv p, iv rr] 67) (fun  | _ => false) rfl (hs.hold (.blk g8 67 [iv st, iv p, iv rr]) (by simp)) ?_
 change Ch.CW _ _ _ _ _ [0, 1, 2, 3, 4, 5, 6, 7, 8] _ _
 iterate 9 (refine Gd.look (by rfl) ?_; (first | ((with_reducible refine Gd.isLoad0 ?_); first | (refine Gd.qp (v := _) (by rfl) (by rfl) (fun wx hS => Se.xl (by rfl) (by rfl) (by rw [(hS).cell]; rfl) (by decide +kernel)) ?_)) | ((with_reducible refine Gd.isLoad1 ?_); first | (refine Gd.gp (v := ?_) (by rfl) (by first | exact Gd.want_t rfl rfl rfl | exact Gd.want_f rfl rfl rfl | exact Gd.want_mt rfl rfl rfl | exact Gd.want_mf rfl rfl rfl) ?_ ?_; rotate_left; (focus ((intro hb; have hb0 := hb; (try simp only [Bool.and_eq_true] at hb)); intro wx hS; exact Se.xl (by rfl) (by exact Gd.mv_of hb0) (by rw [(hS).cell]; rfl) (by decide +kernel)))) | (refine Gd.gp (v := ?_) (by rfl) (by first | exact Gd.want_t rfl rfl rfl | exact Gd.want_f rfl rfl rfl | exact Gd.want_mt rfl rfl rfl | exact Gd.want_mf rfl rfl rfl) ?_ ?_; rotate_left; (focus ((intro hb; have hb0 := hb; (try simp only [Bool.and_eq_true] at hb)); intro wx hS; exact Se.xl (by rfl) (by rfl) (by rw [(hS).cell]; rfl) (by decide +kernel))))) | ((with_reducible refine Gd.isPick0 ?_); refine Gd.qpick (b := _) (v := ?_) (e := ?_) (by rfl) (by rfl) (by rfl) (by rfl) ?_ ?_ ?_; rotate_left 2; (focus (go_simp; (first | done | with_reducible rfl))); (focus (with_reducible rfl)); (intro _ _)) | ((with_reducible refine Gd.isPick1 ?_); refine Gd.gpick (b := ?_) (v := ?_) (e := ?_) (by rfl) (by rfl) (by first | exact Gd.want_t rfl rfl rfl | exact Gd.want_f rfl rfl rfl | exact Gd.want_mt rfl rfl rfl | exact Gd.want_mf rfl rfl rfl) ?_ ?_ ?_; rotate_left 3; (focus ((intro hb; have hb0 := hb; (try simp only [Bool.and_eq_true] at hb)); refine ⟨?_, ?_⟩ <;> (go_simp; (first | done | with_reducible rfl)))); (focus (with_reducible rfl)); (intro _ _)) | ((with_reducible refine Gd.isBin0 (ty := 4) ?_); refine Gd.qb (v := ?_) (e := ?_) (by rfl) (by rfl) (fun wx hS => ?_) ?_ ?_; rotate_left 2; (focus (go_simp; (first | done | with_reducible rfl))); (focus (with_reducible rfl)); (intro _ _)) | ((with_reducible refine Gd.isUn0 (ty := 4) ?_); refine Gd.qb (v := ?_) (e := ?_) (by rfl) (by rfl) (fun wx hS => ?_) ?_ ?_; rotate_left 2; (focus (go_simp; (first | done | with_reducible rfl))); (focus (with_reducible rfl)); (intro _ _)) | ((with_reducible refine Gd.isBin1 (ty := 4) ?_); refine Gd.gb (v := ?_) (e := ?_) (by rfl) (by first | exact Gd.want_t rfl rfl rfl | exact Gd.want_f rfl rfl rfl | exact Gd.want_mt rfl rfl rfl | exact Gd.want_mf rfl rfl rfl) ?_ ?_ ?_; rotate_left 2; (focus ((intro hb; have hb0 := hb; (try simp only [Bool.and_eq_true] at hb)); intro wx hS; go_simp; (first | done | with_reducible rfl))); (focus (with_reducible rfl)); (intro _ _)) | ((with_reducible refine Gd.isUn1 (ty := 4) ?_); refine Gd.gb (v := ?_) (e := ?_) (by rfl) (by first | exact Gd.want_t rfl rfl rfl | exact Gd.want_f rfl rfl rfl | exact Gd.want_mt rfl rfl rfl | exact Gd.want_mf rfl rfl rfl) ?_ ?_ ?_; rotate_left 2; (focus ((intro hb; have hb0 := hb; (try simp only [Bool.and_eq_true] at hb)); intro wx hS; go_simp; (first | done | with_reducible rfl))); (focus (with_reducible rfl)); (intro _ _)) | ((with_reducible refine Gd.is0 ?_); refine Gd.qp (v := ?_) (by rfl) (by rfl) (fun wx hS => ?_) ?_; rotate_left; (focus (go_simp; (first | done | with_reducible rfl)))) | ((with_reducible refine Gd.is1 ?_); refine Gd.gp (v := ?_) (by rfl) (by first | exact Gd.want_t rfl rfl rfl | exact Gd.want_f rfl rfl rfl | exact Gd.want_mt rfl rfl rfl | exact Gd.want_mf rfl rfl rfl) ?_ ?_; rotate_left; (focus ((intro hb; have hb0 := hb; (try simp only [Bool.and_eq_true] at hb)); intro wx hS; go_simp; (first | done | with_reducible rfl))))); (try simp only [Act.put, List.setIfInBounds_toArray, List.set_cons_zero, List.set_cons_succ]))
 refine Ch.done ?_
 rename_i d hd
 have hd2 : (((st : Int) == 13) || ((st : Int) == 15)) = d := or2c hd (by assumption) (by assumption)
 obtain rfl : dm = d := by rw [← hd2, HDM.out, Bool.eq_iff_iff]; simp; omega
 clear hd hd2
 go_upto_region 7 with (first | ((with_reducible refine Se.isL (o := ⟨some 44, _, _, _, _, _⟩) ?_); (refine Se.toL rfl (Se.ldw (o := ⟨some 44, _, _, _, _, _⟩) hs rfl rfl ((Reads.blk 2 rfl)) ((by rw [RLL.out]; kernel_rfl)) (by kernel_rfl) ?_))) | ((with_reducible refine Se.isL (o := ⟨some 10, _, _, _, _, _⟩) ?_); (refine Se.toL rfl (Se.al (o := ⟨some 10, _, _, _, _, _⟩) hs rfl (zRz'.out) ?_); clear hs; rintro w g10 - hs)) | ((with_reducible refine Se.isL (o := ⟨none, _, _, _, _, _⟩) ?_); (refine Se.toL rfl (Se.sow 0 hs rfl rfl rfl rfl (RLO.out) ((by rw [RLL.out]; kernel_rfl)) ((by rw [RLL.out, ZL0.out])) ?_); clear hs; intro w hs; try simp only [List.cons_append, List.nil_append, List.set_cons_zero] at hs)))
 cases dm with
 | false =>
  have HB := Lib.hid (BAD.out (by rfl))
  clear BAD GOOD CSE CO CQ HO
  go_wp2_with (first | ((with_reducible refine Se.isL (o := ⟨some 52, _, _, _, _, _⟩) ?_); (refine Se.toL rfl (Se.ldw (o := ⟨some 52, _, _, _, _, _⟩) hs rfl rfl ((Reads.blk 3 rfl)) ((by rw [RLL.out]; kernel_rfl)) (by kernel_rfl) ?_))) | ((with_reducible refine Se.isL (o := ⟨none, Op.store 43 _ _, _, _, _, _⟩) ?_); (refine Se.toL rfl (Se.sow 2 hs rfl rfl rfl rfl (RLO.out) ((by rw [RLL.out]; kernel_rfl)) ((by rw [RLL.out, ZL0.out])) ?_); clear hs; intro w hs; try simp only [List.cons_append, List.nil_append, List.set_cons_zero, List.set_cons_succ] at hs)))
  refine Se.ret hs [.agg RL.toArray, .int .i64 191] rfl ⟨Se.resRow rfl (Reads.blk 2 rfl) (by kernel_rfl) (by rw [RLL.out] <;> kernel_rfl), rfl, trivial⟩ (by simp) rfl ?_
  exact ⟨trivial, SAME.out 191 HB.out _ hs.drop.drop.drop.drop⟩
 | true =>
  have HB := Lib.hid (GOOD.out (⟨15, p, rr⟩) (by exact ⟨rfl, rfl⟩))
  have CS := Lib.hid (CSE.out (⟨15, p, rr⟩))
  clear BAD GOOD CSE CO CQ SAME HO
  go_wp2_with (first | ((with_reducible refine Se.isL (o := ⟨none, _, _, _, _, _⟩) ?_); ((first | refine Se.toL rfl (Se.so 1 (v := .int _ _) hs rfl rfl rfl rfl rfl (by kernel_rfl) (by simp) ?_) | refine Se.toL rfl (Se.so 1 (v := .bool _) hs rfl rfl rfl rfl rfl (by kernel_rfl) (by simp) ?_) | refine Se.toL rfl (Se.so 1 (v := .slice _ _ _) hs rfl rfl rfl rfl rfl (by kernel_rfl) (by simp) ?_) | refine Se.toL rfl (Se.so 1 (v := .pointer _) hs rfl rfl rfl rfl rfl (by kernel_rfl) (by simp) ?_) | refine Se.toL rfl (Se.so 1 (v := .string _) hs rfl rfl rfl rfl rfl (by kernel_rfl) (by simp) ?_) | refine Se.toL rfl (Se.so 1 (v := .map _) hs rfl rfl rfl rfl rfl (by kernel_rfl) (by simp) ?_) | refine Se.toL rfl (Se.so 1 (v := .func _ _ _) hs rfl rfl rfl rfl rfl (by kernel_rfl) (by simp) ?_) | refine Se.toL rfl (Se.so 1 (v := .nilFunc) hs rfl rfl rfl rfl rfl (by kernel_rfl) (by simp) ?_)); clear hs; intro w hs; try simp only [List.cons_append, List.nil_append, List.set_cons_zero, List.set_cons_succ] at hs)) | ((with_reducible refine Se.isL (o := ⟨some 114, _, _, _, _, _⟩) ?_); (refine Se.toL rfl (Se.ldw (o := ⟨some 114, _, _, _, _, _⟩) hs rfl rfl ((Reads.blk 0 rfl)) ((by rw [RLL.out]; kernel_rfl)) (by kernel_rfl) ?_))) | ((with_reducible refine Se.isL (o := ⟨some 116, _, _, _, _, _⟩) ?_); (refine Se.toL rfl (Se.ldw (o := ⟨some 116, _, _, _, _, _⟩) hs rfl rfl ((Reads.blk 1 rfl)) ((by kernel_rfl)) (by kernel_rfl) ?_))) | ((with_reducible refine Se.isL (o := ⟨none, Op.store 43 _ _, _, _, _, _⟩) ?_); (refine Se.toL rfl (Se.sow 3 hs rfl rfl rfl rfl (hzn.one) ((by rw [hzn.len]; kernel_rfl)) ((by rw [hzn.len, ZL0.out])) ?_); clear hs; intro w hs; try simp only [List.cons_append, List.nil_append, List.set_cons_zero, List.set_cons_succ] at hs)) | (go_at_call 84; refine Calls.mono (CS.out [_, _, _, _] _ hs) ?_; clear hs; rintro e w ⟨A', ZN, rfl, hzn, hs⟩))
  refine Se.ret hs [.agg ZN.toArray, .int .i64 0] rfl ⟨Se.resRow rfl (Reads.blk 3 rfl) (by kernel_rfl) (by rw [hzn.len] <;> kernel_rfl), rfl, trivial⟩ (by simp) rfl ?_
  refine ⟨trivial, ?_⟩
  rw [HB.out]
  exact ⟨A', ZN, rfl, hzn, hs.sub (List.Sublist.cons_cons _ (.cons _ (.cons _ (.cons _ (.cons _ (List.Sublist.refl _))))))⟩
end Zo
end Go.Proofs.Ythpgkkfahiglnaa


/- Layer 28's reference: Write, Append, Read, Damage. No condition but Go's own limits. Printed by wip/gen_zoner4.py. -/
import Derived.Test.YthpgkkfahiglnaaZoneR3
set_option maxRecDepth 100000
set_option maxHeartbeats 4000000
set_option linter.unusedSimpArgs false
set_option linter.unusedVariables false
namespace Go.Proofs.Ythpgkkfahiglnaa
open Go Go.RowKit
namespace Zo
open Se (St At Reads Cell)
open Li (Rd Blk Fr)
variable {w0 w : World} {X : List Nat} {L : List At}
attribute [local irreducible] Calls
attribute [local go_sem] eql_nil
theorem rwrite_st {z : Zs} {A : Option Addr} {ZI : List Value} (hs : St w0 X L w) (hm : At.rd A (ocs z.l) ∈ L) (ho : OkZ z) (hz : RZ z A ZI) (hw : z.w < 1099511627776) (lba n : Int) (hn2 : n ≤ 9223372036854775807) :
  Calls Try.prog 47 #[.agg ZI.toArray, .int .i64 lba, .int .i64 n] w fun e w' => True ∧ QR w0 X L (writeE z lba n) e w' := by
 obtain ⟨cc, hRZ⟩ := hz
 obtain ⟨ga, oa, rfl, _, _⟩ := (hs.hold _ hm).cells (ocs_ne (by rw [ho.1]; exact ho.2.1))
 obtain ⟨RL, hRL⟩ : ∃ RL, RL = ZI := ⟨_, rfl⟩
 rw [← hRL]
 rw [hRZ] at hRL
 obtain ⟨k, hk⟩ : ∃ n, n = z.l.length := ⟨_, rfl⟩
 have hk1 : k ≤ 4096 := by rw [hk, ho.1]; exact ho.2.2.1
 have hk0 : 1 ≤ k := by rw [hk, ho.1]; exact ho.2.1
 have RLL := Lib.hid (show RL.length = 7 by rw [hRL]; rfl)
 have RLO := Lib.hid (show ∀ v ∈ RL, v.oneCell' = true by rw [hRL]; exact zcl_one _ _ _)
 have R5 := Lib.hid (show RL[5]? = some (.slice (some ⟨ga, oa, none⟩) k cc) by rw [hRL, hk]; rfl)
 obtain ⟨sz, hsz⟩ : ∃ n, n = z.c.sz := ⟨_, rfl⟩
 have R1 := Lib.hid (show RL[1]? = some (iv sz) by rw [hRL, hsz]; rfl)
 have hsz1 : 1 ≤ sz := by rw [hsz]; exact ho.2.2.2.1
 have hsz2 : sz ≤ 65536 := by rw [hsz]; exact ho.2.2.2.2.1
 have hzr : RZ z (some ⟨ga, oa, none⟩) RL := ⟨cc, hRL⟩
 have SAME : Hid (∀ c, writeE z lba n = (z, c) → ∀ w, St w0 X L w → QR w0 X L (writeE z lba n) (.returned (.tuple #[.agg RL.toArray, iv c])) w) := Lib.hid (fun c he w hs => by
  rw [he]
  exact ⟨_, _, rfl, hzr, hs.dup hm⟩)
 obtain ⟨RZ0, hRZ0⟩ : ∃ R, R = zcl { c := ⟨0, 0, 0, 0, 0⟩, l := [] } none 0 := ⟨_, rfl⟩
 have ZL0 := Lib.hid (show RZ0.length = 7 by rw [hRZ0]; rfl)
 have zRz' := Lib.hid zRz
 rw [← hRZ0] at zRz'
 clear hRZ0
 by_cases hn : n < 1
 ·have f1 : decide (n < 1) = true := by simpa using hn
  have HB := Lib.hid (show writeE z lba n = (z, 2) by unfold writeE; rw [if_pos hn])
  clear hn hRL hRZ hk hsz ho hm hzr hw
  go_enter Try.func47, Try.ntmps47
  go_wp2_with (first | ((with_reducible refine Se.isL (o := ⟨some 6, _, _, _, _, _⟩) ?_); (refine Se.toL rfl (Se.al (o := ⟨some 6, _, _, _, _, _⟩) hs rfl (zRz'.out) ?_); clear hs; rintro w g6 - hs)) | ((with_reducible refine Se.isL (o := ⟨some 13, _, _, _, _, _⟩) ?_); (refine Se.toL rfl (Se.ldw (o := ⟨some 13, _, _, _, _, _⟩) hs rfl rfl ((Reads.blk 1 rfl)) ((by rw [RLL.out]; kernel_rfl)) (by kernel_rfl) ?_))) | ((with_reducible refine Se.isL (o := ⟨none, Op.store 43 _ _, _, _, _, _⟩) ?_); (refine Se.toL rfl (Se.sow 0 hs rfl rfl rfl rfl (RLO.out) ((by rw [RLL.out]; kernel_rfl)) ((by rw [RLL.out, ZL0.out])) ?_); clear hs; intro w hs; try simp only [List.cons_append, List.nil_append, List.set_cons_zero] at hs)) | ((first | with_reducible refine Se.ab hs ?_ | with_reducible refine Se.abc hs ?_); clear hs; (first | (generalize w.heap.size = g3; intro w hs))))
  refine Se.ret hs [.agg RL.toArray, .int .i64 2] rfl ⟨Se.resRow rfl (Reads.blk 0 rfl) (by kernel_rfl) (by rw [RLL.out] <;> kernel_rfl), rfl, trivial⟩ (by simp) rfl ?_
  exact ⟨trivial, SAME.out 2 HB.out _ hs.drop.drop⟩
 obtain ⟨nn, rfl⟩ : ∃ m : Nat, n = (m : Int) := ⟨n.toNat, by omega⟩
 have hn1 : 1 ≤ nn := by omega
 have f1 : decide ((nn : Int) < 1) = false := by simp; omega
 have HNN := Lib.hid hn
 clear hn
 have HW0 : Hid (writeE z lba (nn : Int) = (if insd z lba (nn : Int) = false then (z, 128) else if z.c.sz < lba.toNat % z.c.sz + nn then (z, 184) else if blkd (z.l.getD (lba.toNat / z.c.sz) dz).st ≠ 0 then (z, blkd (z.l.getD (lba.toNat / z.c.sz) dz).st) else if lba.toNat % z.c.sz ≠ (z.l.getD (lba.toNat / z.c.sz) dz).p then (z, 188) else putE z (lba.toNat / z.c.sz) nn)) := Lib.hid (by unfold writeE; rw [if_neg HNN.out, Int.toNat_natCast])
 cases hin : insd z lba (nn : Int) with
 | false =>
  have HB := Lib.hid (show writeE z lba (nn : Int) = (z, 128) by rw [HW0.out, if_pos hin])
  have CI : Hid (∀ (L : List At) (w : World), St w0 X L w → Calls Try.prog 80 #[.agg RL.toArray, .int .i64 lba, .int .i64 (nn : Int)] w fun e w' => e = .returned (.bool false) ∧ St w0 X L w') := Lib.hid (fun L w hs => by rw [← hin, hRL]; exact rinside_v hs ho (by omega) hn2)
  clear hin hRL hRZ hk hsz ho hm hzr hw HW0 hn2
  go_enter Try.func47, Try.ntmps47
  go_wp2_with (first | ((with_reducible refine Se.isL (o := ⟨some 6, _, _, _, _, _⟩) ?_); (refine Se.toL rfl (Se.al (o := ⟨some 6, _, _, _, _, _⟩) hs rfl (zRz'.out) ?_); clear hs; rintro w g6 - hs)) | ((with_reducible refine Se.isL (o := ⟨some 14, _, _, _, _, _⟩) ?_); (refine Se.toL rfl (Se.ldw (o := ⟨some 14, _, _, _, _, _⟩) hs rfl rfl ((Reads.blk 1 rfl)) ((by rw [RLL.out]; kernel_rfl)) (by kernel_rfl) ?_))) | ((with_reducible refine Se.isL (o := ⟨some 19, _, _, _, _, _⟩) ?_); (refine Se.toL rfl (Se.ldw (o := ⟨some 19, _, _, _, _, _⟩) hs rfl rfl ((Reads.blk 1 rfl)) ((by rw [RLL.out]; kernel_rfl)) (by kernel_rfl) ?_))) | ((with_reducible refine Se.isL (o := ⟨none, Op.store 43 _ _, _, _, _, _⟩) ?_); (refine Se.toL rfl (Se.sow 0 hs rfl rfl rfl rfl (RLO.out) ((by rw [RLL.out]; kernel_rfl)) ((by rw [RLL.out, ZL0.out])) ?_); clear hs; intro w hs; try simp only [List.cons_append, List.nil_append, List.set_cons_zero] at hs)) | ((first | with_reducible refine Se.ab hs ?_ | with_reducible refine Se.abc hs ?_); clear hs; (first | (generalize w.heap.size = g3; intro w hs))) | (go_at_call 80; refine Calls.mono (CI.out _ _ hs) ?_; clear hs; rintro e w ⟨rfl, hs⟩))
  refine Se.ret hs [.agg RL.toArray, .int .i64 128] rfl ⟨Se.resRow rfl (Reads.blk 0 rfl) (by kernel_rfl) (by rw [RLL.out] <;> kernel_rfl), rfl, trivial⟩ (by simp) rfl ?_
  exact ⟨trivial, SAME.out 128 HB.out _ hs.drop.drop⟩
 | true =>
 have CI : Hid (∀ (L : List At) (w : World), St w0 X L w → Calls Try.prog 80 #[.agg RL.toArray, .int .i64 lba, .int .i64 (nn : Int)] w fun e w' => e = .returned (.bool true) ∧ St w0 X L w') := Lib.hid (fun L w hs => by rw [← hin, hRL]; exact rinside_v hs ho (by omega) hn2)
 have hnn2 : nn ≤ 268435456 := by
  have h := hin
  unfold insd at h
  simp only [decide_eq_true_eq] at h
  have h1 : z.c.n * z.c.sz ≤ 4096 * 65536 := Nat.mul_le_mul ho.2.2.1 ho.2.2.2.2.1
  omega
 obtain ⟨lb, rfl⟩ : ∃ m : Nat, lba = (m : Int) := ⟨lba.toNat, by have := insd_pos hin; omega⟩
 obtain ⟨i, hi0⟩ : ∃ i, i = lb / sz := ⟨_, rfl⟩
 obtain ⟨at0, hat⟩ : ∃ i, i = lb % sz := ⟨_, rfl⟩
 have hii := insd_i ho (m := nn) hin hn1
 rw [← hsz, ← hi0, ← hat] at hii
 obtain ⟨hi, hlb, hats⟩ := hii
 have d1 : ((lb : Int)).tdiv (sz : Int) = (i : Int) := by rw [Int.tdiv_eq_ediv_of_nonneg (by omega), hi0]; rfl
 have d2 : ((lb : Int)).tmod (sz : Int) = (at0 : Int) := by rw [Int.tmod_eq_emod_of_nonneg (by omega), hat]; rfl
 have d0 : ¬ ((sz : Int) = 0) := by omega
 have d3 : ((sz : Int) == 0) = false := by simp; omega
 have d4 : ¬ sz = 0 := by omega
 obtain ⟨l, hl⟩ : ∃ l, l = z.l := ⟨_, rfl⟩
 obtain ⟨x, hx⟩ : ∃ x, x = l.getD i dz := ⟨_, rfl⟩
 obtain ⟨st, hst⟩ : ∃ p, p = x.st := ⟨_, rfl⟩
 obtain ⟨p, hp⟩ : ∃ p, p = x.p := ⟨_, rfl⟩
 have hil : i < l.length := by rw [hl]; exact hi
 have hmr : Reads L (some ⟨ga, oa, none⟩) (ocs l) := by rw [hl]; exact Reads.rdm hm
 have C0 := Lib.hid (show Cell L ga (oa + i * 3) (iv st) from rcell hmr hil 0 (by decide) (by rw [hst, hx]; rfl))
 have C1 := Lib.hid (show Cell L ga (oa + i * 3 + 1) (iv p) from rcell hmr hil 1 (by decide) (by rw [hp, hx]; rfl))
 have HRX := Lib.hid (show Reads L (some ⟨ga, oa + i * 3, none⟩) (oc x) by rw [hx, getD_get hil]; exact row_at hmr hil)
 have hik : (i : Int) < (k : Int) := by rw [hk]; omega
 have CQ : Hid (nn ≤ 1048576 → ∀ (M : List At) (w : World), St w0 X (M ++ L) w → Calls Try.prog 82 #[.agg RL.toArray, .int .i64 (i : Int), .int .i64 (nn : Int)] w fun e' w' => True ∧ QR w0 X (M ++ L) (putE z i nn) e' w') := Lib.hid (fun h M w hs => rput_st hs (memM hm M) ho hzr hw hi h)
 have HW : Hid (writeE z (lb : Int) (nn : Int) = (if sz < at0 + nn then (z, 184) else if blkd st ≠ 0 then (z, blkd st) else if at0 ≠ p then (z, 188) else putE z i nn)) := Lib.hid (by
  rw [HW0.out, if_neg (by rw [hin]; decide), Int.toNat_natCast, ← hsz, ← hi0, ← hat, ← hl, ← hx, ← hst, ← hp])
 obtain ⟨bk, hbk⟩ : ∃ b, b = blkd st := ⟨_, rfl⟩
 have CB : Hid (∀ (L : List At) (w : World), St w0 X L w → Calls Try.prog 81 #[iv st] w fun e w' => e = .returned (iv bk) ∧ St w0 X L w') := Lib.hid (fun L w hs => by rw [hbk]; exact rblocked_v hs st)
 rw [← hbk] at HW
 have hpc : p ≤ 65536 := by
  have h2 := (ho.2.2.2.2.2.2.2.2.2 _ (getD_mem hi)).2.2.1
  rw [← hl, ← hx, ← hp] at h2
  have := ho.2.2.2.2.2.2.1
  have := ho.2.2.2.2.1
  omega
 clear hin hRL hRZ hk hsz ho hm hzr hw HW0 hn2 hi0 hat hl hx hst hp hil hmr hbk hi hn1
 go_enter Try.func47, Try.ntmps47
 go_upto_region 5 with (first | ((with_reducible refine Se.isL (o := ⟨some 6, _, _, _, _, _⟩) ?_); (refine Se.toL rfl (Se.al (o := ⟨some 6, _, _, _, _, _⟩) hs rfl (zRz'.out) ?_); clear hs; rintro w g6 - hs)) | ((with_reducible refine Se.isL (o := ⟨some 14, _, _, _, _, _⟩) ?_); (refine Se.toL rfl (Se.ldw (o := ⟨some 14, _, _, _, _, _⟩) hs rfl rfl ((Reads.blk 1 rfl)) ((by rw [RLL.out]; kernel_rfl)) (by kernel_rfl) ?_))) | ((first | with_reducible refine Se.ab hs ?_ | with_reducible refine Se.abc hs ?_); clear hs; (first | (generalize w.heap.size = g3; intro w hs))) | (go_at_call 80; refine Calls.mono (CI.out _ _ hs) ?_; clear hs; rintro e w ⟨rfl, hs⟩))
 clear CI f1
 refine Ch.region' 12 (fun wx => Blk wx g3 RL 43) (fun  | _ => false) (by kernel_rfl) (by decide +kernel) (hs.drew.hold (.blk g3 43 RL) (by simp)) ?_
 replace hs := hs.drew
 generalize w.drew = w at hs ⊢
 change Ch.CW _ _ _ _ _ [0, 1, 2, 3, 4, 5, 6, 7, 8, 9, 10, 11] _ _
 iterate 12 ((first | (refine Ch.pure (v := ?_) (by rfl) (by rfl) (by rfl) (fun wx hS => ?_) ?_; rotate_left; (focus (go_simp; (first | done | with_reducible rfl)))) | refine Ch.pure (v := _) (by rfl) (by rfl) (by rfl) (fun wx hS => Se.xl rfl rfl (by rw [hS.cell]; exact R1.out) (by decide +kernel)) ?_); (try simp only [Act.put, List.setIfInBounds_toArray, List.set_cons_zero, List.set_cons_succ]))
 refine Ch.done ?_
 try simp only [List.drop_succ_cons, List.drop_zero]
 by_cases h1 : sz < at0 + nn
 ·have f2 : decide ((sz : Int) < (at0 : Int) + (nn : Int)) = true := by simp; omega
  have HB := Lib.hid (show writeE z (lb : Int) (nn : Int) = (z, 184) by rw [HW.out, if_pos h1])
  clear h1 HW CQ CB
  go_wp2_with (first | ((with_reducible refine Se.isL (o := ⟨some 35, _, _, _, _, _⟩) ?_); (refine Se.toL rfl (Se.ld (o := ⟨some 35, _, _, _, _, _⟩) hs rfl rfl (Cell.blk 1 rfl R1.out) (by kernel_rfl) ?_))) | ((with_reducible refine Se.isL (o := ⟨some 37, _, _, _, _, _⟩) ?_); (refine Se.toL rfl (Se.ldw (o := ⟨some 37, _, _, _, _, _⟩) hs rfl rfl ((Reads.blk 1 rfl)) ((by rw [RLL.out]; kernel_rfl)) (by kernel_rfl) ?_))) | ((with_reducible refine Se.isL (o := ⟨none, Op.store 43 _ _, _, _, _, _⟩) ?_); (refine Se.toL rfl (Se.sow 0 hs rfl rfl rfl rfl (RLO.out) ((by rw [RLL.out]; kernel_rfl)) ((by rw [RLL.out, ZL0.out])) ?_); clear hs; intro w hs; try simp only [List.cons_append, List.nil_append, List.set_cons_zero] at hs)))
  refine Se.ret hs [.agg RL.toArray, .int .i64 184] rfl ⟨Se.resRow rfl (Reads.blk 0 rfl) (by kernel_rfl) (by rw [RLL.out] <;> kernel_rfl), rfl, trivial⟩ (by simp) rfl ?_
  exact ⟨trivial, SAME.out 184 HB.out _ hs.drop.drop⟩
 have f2 : decide ((sz : Int) < (at0 : Int) + (nn : Int)) = false := by simp; omega
 have CQ2 := Lib.hid (CQ.out (by omega))
 have HW1 := Lib.hid (HW.out.trans (if_neg h1))
 clear h1 HW CQ
 by_cases h2 : bk = 0
 rotate_left
 ·have f3 : ((bk : Int) != 0) = true := by simp; omega
  have HB := Lib.hid (HW1.out.trans (if_pos h2))
  clear h2 HW1 CQ2
  go_wp2_with (first | ((with_reducible refine Se.isL (o := ⟨some 35, _, _, _, _, _⟩) ?_); (refine Se.toL rfl (Se.ld (o := ⟨some 35, _, _, _, _, _⟩) hs rfl rfl (Cell.blk 1 rfl R1.out) (by kernel_rfl) ?_))) | ((with_reducible refine Se.isL (o := ⟨some 39, _, _, _, _, _⟩) ?_); (refine Se.toL rfl (Se.ld (o := ⟨some 39, _, _, _, _, _⟩) hs rfl rfl (Cell.blk 1 rfl R5.out) (by kernel_rfl) ?_))) | ((with_reducible refine Se.isL (o := ⟨some 43, _, _, _, _, _⟩) ?_); (refine Se.toL rfl (Se.ld (o := ⟨some 43, _, _, _, _, _⟩) hs rfl rfl ((capp [_, _] C0.out)) (by kernel_rfl) ?_))) | ((with_reducible refine Se.isL (o := ⟨some 47, _, _, _, _, _⟩) ?_); (refine Se.toL rfl (Se.ldw (o := ⟨some 47, _, _, _, _, _⟩) hs rfl rfl ((Reads.blk 1 rfl)) ((by rw [RLL.out]; kernel_rfl)) (by kernel_rfl) ?_))) | ((with_reducible refine Se.isL (o := ⟨none, Op.store 43 _ _, _, _, _, _⟩) ?_); (refine Se.toL rfl (Se.sow 0 hs rfl rfl rfl rfl (RLO.out) ((by rw [RLL.out]; kernel_rfl)) ((by rw [RLL.out, ZL0.out])) ?_); clear hs; intro w hs; try simp only [List.cons_append, List.nil_append, List.set_cons_zero] at hs)) | (go_at_call 81; refine Calls.mono (CB.out _ _ hs) ?_; clear hs; rintro e w ⟨rfl, hs⟩))
  refine Se.ret hs [.agg RL.toArray, .int .i64 (bk : Int)] rfl ⟨Se.resRow rfl (Reads.blk 0 rfl) (by kernel_rfl) (by rw [RLL.out] <;> kernel_rfl), rfl, trivial⟩ (by simp) rfl ?_
  exact ⟨trivial, SAME.out bk HB.out _ hs.drop.drop⟩
 have f3 : ((bk : Int) != 0) = false := by simp; omega
 have HW2 := Lib.hid (HW1.out.trans (if_neg (by rw [h2]; decide)))
 clear h2 HW1
 by_cases h3 : at0 = p
 rotate_left
 ·have f4 : ((at0 : Int) != (p : Int)) = true := by simp; omega
  have HB := Lib.hid (HW2.out.trans (if_pos h3))
  clear h3 HW2 CQ2
  go_wp2_with (first | ((with_reducible refine Se.isL (o := ⟨some 35, _, _, _, _, _⟩) ?_); (refine Se.toL rfl (Se.ld (o := ⟨some 35, _, _, _, _, _⟩) hs rfl rfl (Cell.blk 1 rfl R1.out) (by kernel_rfl) ?_))) | ((with_reducible refine Se.isL (o := ⟨some 39, _, _, _, _, _⟩) ?_); (refine Se.toL rfl (Se.ld (o := ⟨some 39, _, _, _, _, _⟩) hs rfl rfl (Cell.blk 1 rfl R5.out) (by kernel_rfl) ?_))) | ((with_reducible refine Se.isL (o := ⟨some 43, _, _, _, _, _⟩) ?_); (refine Se.toL rfl (Se.ld (o := ⟨some 43, _, _, _, _, _⟩) hs rfl rfl ((capp [_, _] C0.out)) (by kernel_rfl) ?_))) | ((with_reducible refine Se.isL (o := ⟨some 51, _, _, _, _, _⟩) ?_); (refine Se.toL rfl (Se.ld (o := ⟨some 51, _, _, _, _, _⟩) hs rfl rfl (Cell.blk 1 rfl R5.out) (by kernel_rfl) ?_))) | ((with_reducible refine Se.isL (o := ⟨some 55, _, _, _, _, _⟩) ?_); (refine Se.toL rfl (Se.ld (o := ⟨some 55, _, _, _, _, _⟩) hs rfl rfl ((capp [_, _] C1.out)) (by kernel_rfl) ?_))) | ((with_reducible refine Se.isL (o := ⟨some 57, _, _, _, _, _⟩) ?_); (refine Se.toL rfl (Se.ldw (o := ⟨some 57, _, _, _, _, _⟩) hs rfl rfl ((Reads.blk 1 rfl)) ((by rw [RLL.out]; kernel_rfl)) (by kernel_rfl) ?_))) | ((with_reducible refine Se.isL (o := ⟨none, Op.store 43 _ _, _, _, _, _⟩) ?_); (refine Se.toL rfl (Se.sow 0 hs rfl rfl rfl rfl (RLO.out) ((by rw [RLL.out]; kernel_rfl)) ((by rw [RLL.out, ZL0.out])) ?_); clear hs; intro w hs; try simp only [List.cons_append, List.nil_append, List.set_cons_zero] at hs)) | (go_at_call 81; refine Calls.mono (CB.out _ _ hs) ?_; clear hs; rintro e w ⟨rfl, hs⟩))
  refine Se.ret hs [.agg RL.toArray, .int .i64 188] rfl ⟨Se.resRow rfl (Reads.blk 0 rfl) (by kernel_rfl) (by rw [RLL.out] <;> kernel_rfl), rfl, trivial⟩ (by simp) rfl ?_
  exact ⟨trivial, SAME.out 188 HB.out _ hs.drop.drop⟩
 have f4 : ((at0 : Int) != (p : Int)) = false := by simp; omega
 have HW3 := Lib.hid (HW2.out.trans (if_neg (by rw [h3]; simp)))
 obtain ⟨q, hq⟩ : ∃ q, q = putE z i nn := ⟨_, rfl⟩
 rw [← hq] at CQ2 HW3
 clear h3 HW2 SAME hq
 go_wp2_with (first | ((with_reducible refine Se.isL (o := ⟨some 35, _, _, _, _, _⟩) ?_); (refine Se.toL rfl (Se.ld (o := ⟨some 35, _, _, _, _, _⟩) hs rfl rfl (Cell.blk 1 rfl R1.out) (by kernel_rfl) ?_))) | ((with_reducible refine Se.isL (o := ⟨some 39, _, _, _, _, _⟩) ?_); (refine Se.toL rfl (Se.ld (o := ⟨some 39, _, _, _, _, _⟩) hs rfl rfl (Cell.blk 1 rfl R5.out) (by kernel_rfl) ?_))) | ((with_reducible refine Se.isL (o := ⟨some 43, _, _, _, _, _⟩) ?_); (refine Se.toL rfl (Se.ld (o := ⟨some 43, _, _, _, _, _⟩) hs rfl rfl ((capp [_, _] C0.out)) (by kernel_rfl) ?_))) | ((with_reducible refine Se.isL (o := ⟨some 51, _, _, _, _, _⟩) ?_); (refine Se.toL rfl (Se.ld (o := ⟨some 51, _, _, _, _, _⟩) hs rfl rfl (Cell.blk 1 rfl R5.out) (by kernel_rfl) ?_))) | ((with_reducible refine Se.isL (o := ⟨some 55, _, _, _, _, _⟩) ?_); (refine Se.toL rfl (Se.ld (o := ⟨some 55, _, _, _, _, _⟩) hs rfl rfl ((capp [_, _] C1.out)) (by kernel_rfl) ?_))) | ((with_reducible refine Se.isL (o := ⟨some 58, _, _, _, _, _⟩) ?_); (refine Se.toL rfl (Se.ldw (o := ⟨some 58, _, _, _, _, _⟩) hs rfl rfl ((Reads.blk 1 rfl)) ((by rw [RLL.out]; kernel_rfl)) (by kernel_rfl) ?_))) | ((with_reducible refine Se.isL (o := ⟨none, Op.store 43 _ _, _, _, _, _⟩) ?_); (refine Se.toL rfl (Se.sow 1 hs rfl rfl rfl rfl (hzn.one) ((by rw [hzn.len]; kernel_rfl)) ((by rw [hzn.len, ZL0.out])) ?_); clear hs; intro w hs; try simp only [List.cons_append, List.nil_append, List.set_cons_zero, List.set_cons_succ] at hs)) | (go_at_call 81; refine Calls.mono (CB.out _ _ hs) ?_; clear hs; rintro e w ⟨rfl, hs⟩) | (go_at_call 82; refine Calls.mono (CQ2.out [_, _] _ hs) ?_; clear hs; rintro e w ⟨-, A', ZN, rfl, hzn, hs⟩))
 refine Se.ret hs [.agg ZN.toArray, .int .i64 (q.2 : Int)] rfl ⟨Se.resRow rfl (Reads.blk 1 rfl) (by kernel_rfl) (by rw [hzn.len] <;> kernel_rfl), rfl, trivial⟩ (by simp) rfl ?_
 refine ⟨trivial, ?_⟩
 rw [HW3.out]
 exact ⟨A', ZN, rfl, hzn, hs.sub (List.Sublist.cons_cons _ (.cons _ (.cons _ (List.Sublist.refl _))))⟩
def QA (w0 : World) (X : List Nat) (L : List At) (q : Zs × Nat × Nat) (e : Ending) (w' : World) : Prop :=
 ∃ A' ZL, e = .returned (.tuple #[.agg ZL.toArray, iv q.2.1, iv q.2.2]) ∧ RZ q.1 A' ZL ∧ St w0 X (.rd A' (ocs q.1.l) :: L) w'
theorem rappend_st {z : Zs} {A : Option Addr} {ZI : List Value} (hs : St w0 X L w) (hm : At.rd A (ocs z.l) ∈ L) (ho : OkZ z) (hz : RZ z A ZI) (hw : z.w < 1099511627776) (lba n : Int) :
  Calls Try.prog 48 #[.agg ZI.toArray, .int .i64 lba, .int .i64 n] w fun e w' => True ∧ QA w0 X L (appendE z lba n) e w' := by
 obtain ⟨cc, hRZ⟩ := hz
 obtain ⟨ga, oa, rfl, _, _⟩ := (hs.hold _ hm).cells (ocs_ne (by rw [ho.1]; exact ho.2.1))
 obtain ⟨RL, hRL⟩ : ∃ RL, RL = ZI := ⟨_, rfl⟩
 rw [← hRL]
 rw [hRZ] at hRL
 obtain ⟨k, hk⟩ : ∃ n, n = z.l.length := ⟨_, rfl⟩
 have hk1 : k ≤ 4096 := by rw [hk, ho.1]; exact ho.2.2.1
 have hk0 : 1 ≤ k := by rw [hk, ho.1]; exact ho.2.1
 have RLL := Lib.hid (show RL.length = 7 by rw [hRL]; rfl)
 have RLO := Lib.hid (show ∀ v ∈ RL, v.oneCell' = true by rw [hRL]; exact zcl_one _ _ _)
 have R5 := Lib.hid (show RL[5]? = some (.slice (some ⟨ga, oa, none⟩) k cc) by rw [hRL, hk]; rfl)
 obtain ⟨sz, hsz⟩ : ∃ n, n = z.c.sz := ⟨_, rfl⟩
 have R1 := Lib.hid (show RL[1]? = some (iv sz) by rw [hRL, hsz]; rfl)
 obtain ⟨cap, hcap⟩ : ∃ n, n = z.c.cap := ⟨_, rfl⟩
 have R2 := Lib.hid (show RL[2]? = some (iv cap) by rw [hRL, hcap]; rfl)
 have hsz1 : 1 ≤ sz := by rw [hsz]; exact ho.2.2.2.1
 have hsz2 : sz ≤ 65536 := by rw [hsz]; exact ho.2.2.2.2.1
 have hzr : RZ z (some ⟨ga, oa, none⟩) RL := ⟨cc, hRL⟩
 have hcap1 : cap ≤ 65536 := by rw [hcap]; have := ho.2.2.2.2.2.2.1; have := ho.2.2.2.2.1; omega
 have SAME : Hid (∀ c, appendE z lba n = (z, 0, c) → ∀ w, St w0 X L w → QA w0 X L (appendE z lba n) (.returned (.tuple #[.agg RL.toArray, iv 0, iv c])) w) := Lib.hid (fun c he w hs => by
  rw [he]
  exact ⟨_, _, rfl, hzr, hs.dup hm⟩)
 obtain ⟨RZ0, hRZ0⟩ : ∃ R, R = zcl { c := ⟨0, 0, 0, 0, 0⟩, l := [] } none 0 := ⟨_, rfl⟩
 have ZL0 := Lib.hid (show RZ0.length = 7 by rw [hRZ0]; rfl)
 have zRz' := Lib.hid zRz
 rw [← hRZ0] at zRz'
 clear hRZ0
 by_cases hn : n < 1
 ·have f1 : decide (n < 1) = true := by simpa using hn
  have HB := Lib.hid (show appendE z lba n = (z, 0, 2) by unfold appendE; rw [if_pos hn])
  clear hn hRL hRZ hk hsz hcap ho hm hzr hw
  go_enter Try.func48, Try.ntmps48
  go_wp2_with (first | ((with_reducible refine Se.isL (o := ⟨some 6, _, _, _, _, _⟩) ?_); (refine Se.toL rfl (Se.al (o := ⟨some 6, _, _, _, _, _⟩) hs rfl (zRz'.out) ?_); clear hs; rintro w g6 - hs)) | ((with_reducible refine Se.isL (o := ⟨some 15, _, _, _, _, _⟩) ?_); (refine Se.toL rfl (Se.ldw (o := ⟨some 15, _, _, _, _, _⟩) hs rfl rfl ((Reads.blk 1 rfl)) ((by rw [RLL.out]; kernel_rfl)) (by kernel_rfl) ?_))) | ((with_reducible refine Se.isL (o := ⟨none, Op.store 43 _ _, _, _, _, _⟩) ?_); (refine Se.toL rfl (Se.sow 0 hs rfl rfl rfl rfl (RLO.out) ((by rw [RLL.out]; kernel_rfl)) ((by rw [RLL.out, ZL0.out])) ?_); clear hs; intro w hs; try simp only [List.cons_append, List.nil_append, List.set_cons_zero] at hs)) | ((first | with_reducible refine Se.ab hs ?_ | with_reducible refine Se.abc hs ?_); clear hs; (first | (generalize w.heap.size = g3; intro w hs))))
  refine Se.ret hs [.agg RL.toArray, .int .i64 0, .int .i64 2] rfl ⟨Se.resRow rfl (Reads.blk 0 rfl) (by kernel_rfl) (by rw [RLL.out] <;> kernel_rfl), rfl, rfl, trivial⟩ (by simp) rfl ?_
  exact ⟨trivial, SAME.out 2 HB.out _ hs.drop.drop⟩
 obtain ⟨nn, rfl⟩ : ∃ m : Nat, n = (m : Int) := ⟨n.toNat, by omega⟩
 have hn1 : 1 ≤ nn := by omega
 have f1 : decide ((nn : Int) < 1) = false := by simp; omega
 have HNN := Lib.hid hn
 clear hn
 have HW0 := Lib.hid (show appendE z lba (nn : Int) = _ by unfold appendE; rw [if_neg HNN.out, Int.toNat_natCast])
 cases hin : insd z lba 1 with
 | false =>
  have HB := Lib.hid (show appendE z lba (nn : Int) = (z, 0, 128) by rw [HW0.out, if_pos hin])
  have CI : Hid (∀ (L : List At) (w : World), St w0 X L w → Calls Try.prog 80 #[.agg RL.toArray, .int .i64 lba, .int .i64 1] w fun e w' => e = .returned (.bool false) ∧ St w0 X L w') := Lib.hid (fun L w hs => by rw [← hin, hRL]; exact rinside_v hs ho (by omega) (by omega))
  clear hin hRL hRZ hk hsz hcap ho hm hzr hw HW0
  go_enter Try.func48, Try.ntmps48
  go_wp2_with (first | ((with_reducible refine Se.isL (o := ⟨some 6, _, _, _, _, _⟩) ?_); (refine Se.toL rfl (Se.al (o := ⟨some 6, _, _, _, _, _⟩) hs rfl (zRz'.out) ?_); clear hs; rintro w g6 - hs)) | ((with_reducible refine Se.isL (o := ⟨some 16, _, _, _, _, _⟩) ?_); (refine Se.toL rfl (Se.ldw (o := ⟨some 16, _, _, _, _, _⟩) hs rfl rfl ((Reads.blk 1 rfl)) ((by rw [RLL.out]; kernel_rfl)) (by kernel_rfl) ?_))) | ((with_reducible refine Se.isL (o := ⟨some 20, _, _, _, _, _⟩) ?_); (refine Se.toL rfl (Se.ldw (o := ⟨some 20, _, _, _, _, _⟩) hs rfl rfl ((Reads.blk 1 rfl)) ((by rw [RLL.out]; kernel_rfl)) (by kernel_rfl) ?_))) | ((with_reducible refine Se.isL (o := ⟨none, Op.store 43 _ _, _, _, _, _⟩) ?_); (refine Se.toL rfl (Se.sow 0 hs rfl rfl rfl rfl (RLO.out) ((by rw [RLL.out]; kernel_rfl)) ((by rw [RLL.out, ZL0.out])) ?_); clear hs; intro w hs; try simp only [List.cons_append, List.nil_append, List.set_cons_zero] at hs)) | ((first | with_reducible refine Se.ab hs ?_ | with_reducible refine Se.abc hs ?_); clear hs; (first | (generalize w.heap.size = g3; intro w hs))) | (go_at_call 80; refine Calls.mono (CI.out _ _ hs) ?_; clear hs; rintro e w ⟨rfl, hs⟩))
  refine Se.ret hs [.agg RL.toArray, .int .i64 0, .int .i64 128] rfl ⟨Se.resRow rfl (Reads.blk 0 rfl) (by kernel_rfl) (by rw [RLL.out] <;> kernel_rfl), rfl, rfl, trivial⟩ (by simp) rfl ?_
  exact ⟨trivial, SAME.out 128 HB.out _ hs.drop.drop⟩
 | true =>
 have CI : Hid (∀ (L : List At) (w : World), St w0 X L w → Calls Try.prog 80 #[.agg RL.toArray, .int .i64 lba, .int .i64 1] w fun e w' => e = .returned (.bool true) ∧ St w0 X L w') := Lib.hid (fun L w hs => by rw [← hin, hRL]; exact rinside_v hs ho (by omega) (by omega))
 obtain ⟨lb, rfl⟩ : ∃ m : Nat, lba = (m : Int) := ⟨lba.toNat, by have := insd_pos hin; omega⟩
 obtain ⟨i, hi0⟩ : ∃ i, i = lb / sz := ⟨_, rfl⟩
 obtain ⟨at0, hat⟩ : ∃ i, i = lb % sz := ⟨_, rfl⟩
 have hii := insd_i ho (m := 1) hin (Nat.le_refl 1)
 rw [← hsz, ← hi0, ← hat] at hii
 obtain ⟨hi, hlb, hats⟩ := hii
 have d1 : ((lb : Int)).tdiv (sz : Int) = (i : Int) := by rw [Int.tdiv_eq_ediv_of_nonneg (by omega), hi0]; rfl
 have d2 : ((lb : Int)).tmod (sz : Int) = (at0 : Int) := by rw [Int.tmod_eq_emod_of_nonneg (by omega), hat]; rfl
 have d0 : ¬ ((sz : Int) = 0) := by omega
 have d3 : ((sz : Int) == 0) = false := by simp; omega
 have d4 : ¬ sz = 0 := by omega
 obtain ⟨l, hl⟩ : ∃ l, l = z.l := ⟨_, rfl⟩
 obtain ⟨x, hx⟩ : ∃ x, x = l.getD i dz := ⟨_, rfl⟩
 obtain ⟨st, hst⟩ : ∃ p, p = x.st := ⟨_, rfl⟩
 obtain ⟨p, hp⟩ : ∃ p, p = x.p := ⟨_, rfl⟩
 have hil : i < l.length := by rw [hl]; exact hi
 have hmr : Reads L (some ⟨ga, oa, none⟩) (ocs l) := by rw [hl]; exact Reads.rdm hm
 have C0 := Lib.hid (show Cell L ga (oa + i * 3) (iv st) from rcell hmr hil 0 (by decide) (by rw [hst, hx]; rfl))
 have C1 := Lib.hid (show Cell L ga (oa + i * 3 + 1) (iv p) from rcell hmr hil 1 (by decide) (by rw [hp, hx]; rfl))
 have HRX := Lib.hid (show Reads L (some ⟨ga, oa + i * 3, none⟩) (oc x) by rw [hx, getD_get hil]; exact row_at hmr hil)
 have hik : (i : Int) < (k : Int) := by rw [hk]; omega
 have CQ : Hid (nn ≤ 1048576 → ∀ (M : List At) (w : World), St w0 X (M ++ L) w → Calls Try.prog 82 #[.agg RL.toArray, .int .i64 (i : Int), .int .i64 (nn : Int)] w fun e' w' => True ∧ QR w0 X (M ++ L) (putE z i nn) e' w') := Lib.hid (fun h M w hs => rput_st hs (memM hm M) ho hzr hw hi h)
 have HW : Hid (appendE z (lb : Int) (nn : Int) = (if at0 ≠ 0 then (z, 0, 2) else if blkd st ≠ 0 then (z, 0, blkd st) else if (putE z i nn).2 = 0 then ((putE z i nn).1, lb + p, 0) else (z, 0, (putE z i nn).2))) := Lib.hid (by
  rw [HW0.out, if_neg (by rw [hin]; decide), Int.toNat_natCast, ← hsz, ← hi0, ← hat, ← hl, ← hx, ← hst, ← hp])
 obtain ⟨bk, hbk⟩ : ∃ b, b = blkd st := ⟨_, rfl⟩
 have CB : Hid (∀ (L : List At) (w : World), St w0 X L w → Calls Try.prog 81 #[iv st] w fun e w' => e = .returned (iv bk) ∧ St w0 X L w') := Lib.hid (fun L w hs => by rw [hbk]; exact rblocked_v hs st)
 rw [← hbk] at HW
 have hpc : p ≤ 65536 := by
  have h2 := (ho.2.2.2.2.2.2.2.2.2 _ (getD_mem hi)).2.2.1
  rw [← hl, ← hx, ← hp] at h2
  have := ho.2.2.2.2.2.2.1
  have := ho.2.2.2.2.1
  omega
 have HPC : Hid (cap < nn → putE z i nn = (z, 184)) := Lib.hid (fun h => by unfold putE; rw [if_pos (by rw [← hcap]; omega)])
 clear hin hRL hRZ hk hsz hcap ho hm hzr hw HW0 hi0 hat hl hx hst hp hil hmr hbk hi hn1
 go_enter Try.func48, Try.ntmps48
 go_upto_region 5 with (first | ((with_reducible refine Se.isL (o := ⟨some 6, _, _, _, _, _⟩) ?_); (refine Se.toL rfl (Se.al (o := ⟨some 6, _, _, _, _, _⟩) hs rfl (zRz'.out) ?_); clear hs; rintro w g6 - hs)) | ((with_reducible refine Se.isL (o := ⟨some 16, _, _, _, _, _⟩) ?_); (refine Se.toL rfl (Se.ldw (o := ⟨some 16, _, _, _, _, _⟩) hs rfl rfl ((Reads.blk 1 rfl)) ((by rw [RLL.out]; kernel_rfl)) (by kernel_rfl) ?_))) | ((first | with_reducible refine Se.ab hs ?_ | with_reducible refine Se.abc hs ?_); clear hs; (first | (generalize w.heap.size = g3; intro w hs))) | (go_at_call 80; refine Calls.mono (CI.out _ _ hs) ?_; clear hs; rintro e w ⟨rfl, hs⟩))
 clear CI f1
 by_cases h1 : at0 = 0
 rotate_left
 ·have f2 : ((at0 : Int) != 0) = true := by simp; omega
  have HB := Lib.hid (HW.out.trans (if_pos h1))
  clear h1 HW CQ CB HPC
  go_wp2_with (first | ((with_reducible refine Se.isL (o := ⟨some 24, _, _, _, _, _⟩) ?_); (refine Se.toL rfl (Se.ld (o := ⟨some 24, _, _, _, _, _⟩) hs rfl rfl (Cell.blk 1 rfl R1.out) (by kernel_rfl) ?_))) | ((with_reducible refine Se.isL (o := ⟨some 29, _, _, _, _, _⟩) ?_); (refine Se.toL rfl (Se.ld (o := ⟨some 29, _, _, _, _, _⟩) hs rfl rfl (Cell.blk 1 rfl R1.out) (by kernel_rfl) ?_))) | ((with_reducible refine Se.isL (o := ⟨some 32, _, _, _, _, _⟩) ?_); (refine Se.toL rfl (Se.ldw (o := ⟨some 32, _, _, _, _, _⟩) hs rfl rfl ((Reads.blk 1 rfl)) ((by rw [RLL.out]; kernel_rfl)) (by kernel_rfl) ?_))) | ((with_reducible refine Se.isL (o := ⟨none, Op.store 43 _ _, _, _, _, _⟩) ?_); (refine Se.toL rfl (Se.sow 0 hs rfl rfl rfl rfl (RLO.out) ((by rw [RLL.out]; kernel_rfl)) ((by rw [RLL.out, ZL0.out])) ?_); clear hs; intro w hs; try simp only [List.cons_append, List.nil_append, List.set_cons_zero] at hs)))
  refine Se.ret hs [.agg RL.toArray, .int .i64 0, .int .i64 2] rfl ⟨Se.resRow rfl (Reads.blk 0 rfl) (by kernel_rfl) (by rw [RLL.out] <;> kernel_rfl), rfl, rfl, trivial⟩ (by simp) rfl ?_
  exact ⟨trivial, SAME.out 2 HB.out _ hs.drop.drop⟩
 have f2 : ((at0 : Int) != 0) = false := by simp; omega
 have HW1 := Lib.hid (HW.out.trans (if_neg (by rw [h1]; decide)))
 clear h1 HW
 by_cases h2 : bk = 0
 rotate_left
 ·have f3 : ((bk : Int) != 0) = true := by simp; omega
  have HB := Lib.hid (HW1.out.trans (if_pos h2))
  clear h2 HW1 CQ HPC
  go_wp2_with (first | ((with_reducible refine Se.isL (o := ⟨some 24, _, _, _, _, _⟩) ?_); (refine Se.toL rfl (Se.ld (o := ⟨some 24, _, _, _, _, _⟩) hs rfl rfl (Cell.blk 1 rfl R1.out) (by kernel_rfl) ?_))) | ((with_reducible refine Se.isL (o := ⟨some 29, _, _, _, _, _⟩) ?_); (refine Se.toL rfl (Se.ld (o := ⟨some 29, _, _, _, _, _⟩) hs rfl rfl (Cell.blk 1 rfl R1.out) (by kernel_rfl) ?_))) | ((with_reducible refine Se.isL (o := ⟨some 34, _, _, _, _, _⟩) ?_); (refine Se.toL rfl (Se.ld (o := ⟨some 34, _, _, _, _, _⟩) hs rfl rfl (Cell.blk 1 rfl R5.out) (by kernel_rfl) ?_))) | ((with_reducible refine Se.isL (o := ⟨some 38, _, _, _, _, _⟩) ?_); (refine Se.toL rfl (Se.ld (o := ⟨some 38, _, _, _, _, _⟩) hs rfl rfl ((capp [_, _] C0.out)) (by kernel_rfl) ?_))) | ((with_reducible refine Se.isL (o := ⟨some 42, _, _, _, _, _⟩) ?_); (refine Se.toL rfl (Se.ldw (o := ⟨some 42, _, _, _, _, _⟩) hs rfl rfl ((Reads.blk 1 rfl)) ((by rw [RLL.out]; kernel_rfl)) (by kernel_rfl) ?_))) | ((with_reducible refine Se.isL (o := ⟨none, Op.store 43 _ _, _, _, _, _⟩) ?_); (refine Se.toL rfl (Se.sow 0 hs rfl rfl rfl rfl (RLO.out) ((by rw [RLL.out]; kernel_rfl)) ((by rw [RLL.out, ZL0.out])) ?_); clear hs; intro w hs; try simp only [List.cons_append, List.nil_append, List.set_cons_zero] at hs)) | (go_at_call 81; refine Calls.mono (CB.out _ _ hs) ?_; clear hs; rintro e w ⟨rfl, hs⟩))
  refine Se.ret hs [.agg RL.toArray, .int .i64 0, .int .i64 (bk : Int)] rfl ⟨Se.resRow rfl (Reads.blk 0 rfl) (by kernel_rfl) (by rw [RLL.out] <;> kernel_rfl), rfl, rfl, trivial⟩ (by simp) rfl ?_
  exact ⟨trivial, SAME.out bk HB.out _ hs.drop.drop⟩
 have f3 : ((bk : Int) != 0) = false := by simp; omega
 have HW2 := Lib.hid (HW1.out.trans (if_neg (by rw [h2]; decide)))
 clear h2 HW1
 go_upto_region 11 with (first | ((with_reducible refine Se.isL (o := ⟨some 24, _, _, _, _, _⟩) ?_); (refine Se.toL rfl (Se.ld (o := ⟨some 24, _, _, _, _, _⟩) hs rfl rfl (Cell.blk 1 rfl R1.out) (by kernel_rfl) ?_))) | ((with_reducible refine Se.isL (o := ⟨some 29, _, _, _, _, _⟩) ?_); (refine Se.toL rfl (Se.ld (o := ⟨some 29, _, _, _, _, _⟩) hs rfl rfl (Cell.blk 1 rfl R1.out) (by kernel_rfl) ?_))) | ((with_reducible refine Se.isL (o := ⟨some 34, _, _, _, _, _⟩) ?_); (refine Se.toL rfl (Se.ld (o := ⟨some 34, _, _, _, _, _⟩) hs rfl rfl (Cell.blk 1 rfl R5.out) (by kernel_rfl) ?_))) | ((with_reducible refine Se.isL (o := ⟨some 38, _, _, _, _, _⟩) ?_); (refine Se.toL rfl (Se.ld (o := ⟨some 38, _, _, _, _, _⟩) hs rfl rfl ((capp [_, _] C0.out)) (by kernel_rfl) ?_))) | (go_at_call 81; refine Calls.mono (CB.out _ _ hs) ?_; clear hs; rintro e w ⟨rfl, hs⟩))
 clear CB f2 f3
 by_cases h3 : cap < nn
 ·have f4 : decide ((cap : Int) < (nn : Int)) = true := by simp; omega
  have f5 : decide (cap < nn) = true := by simpa using h3
  have HB := Lib.hid (show appendE z (lb : Int) (nn : Int) = (z, 0, 184) by rw [HW2.out, HPC.out h3]; rfl)
  clear h3 HW2 CQ HPC
  go_wp2_with (first | ((with_reducible refine Se.isL (o := ⟨some 47, _, _, _, _, _⟩) ?_); (refine Se.toL rfl (Se.ld (o := ⟨some 47, _, _, _, _, _⟩) hs rfl rfl (Cell.blk 1 rfl R2.out) (by kernel_rfl) ?_))) | ((with_reducible refine Se.isL (o := ⟨some 49, _, _, _, _, _⟩) ?_); (refine Se.toL rfl (Se.ldw (o := ⟨some 49, _, _, _, _, _⟩) hs rfl rfl ((Reads.blk 1 rfl)) ((by rw [RLL.out]; kernel_rfl)) (by kernel_rfl) ?_))) | ((with_reducible refine Se.isL (o := ⟨none, Op.store 43 _ _, _, _, _, _⟩) ?_); (refine Se.toL rfl (Se.sow 0 hs rfl rfl rfl rfl (RLO.out) ((by rw [RLL.out]; kernel_rfl)) ((by rw [RLL.out, ZL0.out])) ?_); clear hs; intro w hs; try simp only [List.cons_append, List.nil_append, List.set_cons_zero] at hs)))
  refine Se.ret hs [.agg RL.toArray, .int .i64 0, .int .i64 184] rfl ⟨Se.resRow rfl (Reads.blk 0 rfl) (by kernel_rfl) (by rw [RLL.out] <;> kernel_rfl), rfl, rfl, trivial⟩ (by simp) rfl ?_
  exact ⟨trivial, SAME.out 184 HB.out _ hs.drop.drop⟩
 have f4 : decide ((cap : Int) < (nn : Int)) = false := by simp; omega
 have f5 : decide (cap < nn) = false := by simpa using h3
 have CQ2 := Lib.hid (CQ.out (by omega))
 obtain ⟨q, hq⟩ : ∃ q, q = putE z i nn := ⟨_, rfl⟩
 rw [← hq] at CQ2 HW2
 clear h3 HPC CQ hq
 go_upto_region 14 with (first | ((with_reducible refine Se.isL (o := ⟨some 47, _, _, _, _, _⟩) ?_); (refine Se.toL rfl (Se.ld (o := ⟨some 47, _, _, _, _, _⟩) hs rfl rfl (Cell.blk 1 rfl R2.out) (by kernel_rfl) ?_))) | ((with_reducible refine Se.isL (o := ⟨some 51, _, _, _, _, _⟩) ?_); (refine Se.toL rfl (Se.ldw (o := ⟨some 51, _, _, _, _, _⟩) hs rfl rfl ((Reads.blk 1 rfl)) ((by rw [RLL.out]; kernel_rfl)) (by kernel_rfl) ?_))) | ((with_reducible refine Se.isL (o := ⟨some 11, _, _, _, _, _⟩) ?_); (refine Se.toL rfl (Se.al (o := ⟨some 11, _, _, _, _, _⟩) hs rfl (zRz'.out) ?_); clear hs; rintro w g11 - hs)) | ((with_reducible refine Se.isL (o := ⟨none, Op.store 43 _ _, _, _, _, _⟩) ?_); (refine Se.toL rfl (Se.sow 0 hs rfl rfl rfl rfl (hzn.one) ((by rw [hzn.len]; kernel_rfl)) ((by rw [hzn.len, ZL0.out])) ?_); clear hs; intro w hs; try simp only [List.cons_append, List.nil_append, List.set_cons_zero] at hs)) | (go_at_call 82; refine Calls.mono (CQ2.out [_, _] _ hs) ?_; clear hs; rintro e w ⟨-, A', ZN, rfl, hzn, hs⟩))
 clear f4 f5 CQ2
 obtain ⟨c2, hc2⟩ : ∃ c, c = q.2 := ⟨_, rfl⟩
 rw [← hc2] at HW2 ⊢
 have HNL := Lib.hid hzn.len
 have HNO := Lib.hid hzn.one
 have HNZ := Lib.hid hzn
 clear hzn hc2
 by_cases h4 : c2 = 0
 rotate_left
 ·have f6 : ((c2 : Int) != 0) = true := by simp; omega
  have HB := Lib.hid (HW2.out.trans (if_neg h4))
  clear h4 HW2
  go_wp2_with (first | ((with_reducible refine Se.isL (o := ⟨some 59, _, _, _, _, _⟩) ?_); (refine Se.toL rfl (Se.ldw (o := ⟨some 59, _, _, _, _, _⟩) hs rfl rfl ((Reads.blk 3 rfl)) ((by rw [RLL.out]; kernel_rfl)) (by kernel_rfl) ?_))) | ((with_reducible refine Se.isL (o := ⟨none, Op.store 43 _ _, _, _, _, _⟩) ?_); (refine Se.toL rfl (Se.sow 2 hs rfl rfl rfl rfl (RLO.out) ((by rw [RLL.out]; kernel_rfl)) ((by rw [RLL.out, ZL0.out])) ?_); clear hs; intro w hs; try simp only [List.cons_append, List.nil_append, List.set_cons_zero, List.set_cons_succ] at hs)))
  refine Se.ret hs [.agg RL.toArray, .int .i64 0, .int .i64 (c2 : Int)] rfl ⟨Se.resRow rfl (Reads.blk 2 rfl) (by kernel_rfl) (by rw [RLL.out] <;> kernel_rfl), rfl, rfl, trivial⟩ (by simp) rfl ?_
  exact ⟨trivial, SAME.out c2 HB.out _ hs.drop.drop.drop.drop⟩
 have f6 : ((c2 : Int) != 0) = false := by simp; omega
 have HB := Lib.hid (HW2.out.trans (if_pos h4))
 obtain ⟨lp, hlp⟩ : ∃ m, m = lb + p := ⟨_, rfl⟩
 have w1 : IntKind.i64.wrap ((lb : Int) + (p : Int)) = (lp : Int) := by rw [hlp, Int.natCast_add]; exact IntWalk.i64_in _ (by omega)
 have HLP := Lib.hid hlp
 clear h4 HW2 SAME hlp
 go_upto_region 16 with (fail)
 refine Ch.region' 12 (fun wx => (Blk wx g3 RL 43 ∧ Blk wx g11 ZN 43) ∧ wx.cell? ⟨ga, oa + i * 3 + 1, none⟩ = some (iv p)) (fun | 9 => true | _ => false) (by kernel_rfl) (by decide +kernel) (⟨⟨hs.drew.hold (.blk g3 43 RL) (by simp), hs.drew.hold (.blk g11 43 ZN) (by simp)⟩, (capp [_, _, _, _] C1.out) _ hs.drew.hold⟩) ?_
 replace hs := hs.drew
 generalize w.drew = w at hs ⊢
 change Ch.CW _ _ _ _ _ [0, 1, 2, 3, 4, 5, 6, 7, 8, 9, 10, 11] _ _
 iterate 9 ((first | (refine Ch.pure (v := ?_) (by rfl) (by rfl) (by rfl) (fun wx hS => ?_) ?_; rotate_left; (focus (go_simp; (first | done | with_reducible rfl)))) | refine Ch.pure (v := _) (by rfl) (by rfl) (by rfl) (fun wx hS => Se.xla rfl rfl (Li.Rd.of_blk hS.1.2) (by rw [HNL.out] <;> kernel_rfl) (by kernel_rfl)) ?_ | refine Ch.pure (v := _) (by rfl) (by rfl) (by rfl) (fun wx hS => Se.xl rfl rfl (by rw [hS.1.1.cell]; exact R5.out) (by decide +kernel)) ?_ | refine Ch.pure (v := _) (by rfl) (by rfl) (by rfl) (fun wx hS => Se.xl rfl rfl hS.2 (by decide +kernel)) ?_); (try simp only [Act.put, List.setIfInBounds_toArray, List.set_cons_zero, List.set_cons_succ]))
 refine Ch.noise (by rfl) (by rfl) (by rfl) (Se.sow 2 hs rfl rfl rfl rfl HNO.out (by rw [HNL.out]; kernel_rfl) (by rw [HNL.out, ZL0.out]) ?_)
 clear hs
 intro w hs
 simp only [List.cons_append, List.nil_append, List.set_cons_zero, List.set_cons_succ] at hs
 refine ⟨⟨⟨hs.hold (.blk g3 43 RL) (by simp), hs.hold (.blk g11 43 ZN) (by simp)⟩, (capp [_, _, _, _] C1.out) _ hs.hold⟩, ?_⟩
 (try simp only [Act.put, List.setIfInBounds_toArray, List.set_cons_zero, List.set_cons_succ])
 iterate 2 ((first | (refine Ch.pure (v := ?_) (by rfl) (by rfl) (by rfl) (fun wx hS => ?_) ?_; rotate_left; (focus (go_simp; (first | done | with_reducible rfl))))); (try simp only [Act.put, List.setIfInBounds_toArray, List.set_cons_zero, List.set_cons_succ]))
 refine Ch.done ?_
 try simp only [List.drop_succ_cons, List.drop_zero]
 go_wp2_with fail
 refine Se.ret hs [.agg ZN.toArray, .int .i64 (lp : Int), .int .i64 0] rfl ⟨Se.resRow rfl (Reads.blk 2 rfl) (by kernel_rfl) (by rw [HNL.out] <;> kernel_rfl), rfl, rfl, trivial⟩ (by simp) rfl ?_
 refine ⟨trivial, ?_⟩
 rw [HB.out, ← HLP.out]
 exact ⟨A', ZN, rfl, HNZ.out, hs.sub (.cons _ (List.Sublist.cons_cons _ (.cons _ (.cons _ (List.Sublist.refl _)))))⟩
theorem offN_step (l : List Zn) {f j : Nat} (hf : f ≤ j) (h : j < l.length) : offN l f (j + 1) = (offN l f j || ((l.getD j dz).st == 15)) := by
 unfold offN
 rw [List.take_add_one, List.getElem?_eq_getElem h, Option.toList_some, List.drop_append, List.any_append]
 rw [List.length_take, Nat.min_eq_left (Nat.le_of_lt h), Nat.sub_eq_zero_of_le hf, List.drop_zero, getD_get h]
 simp
theorem offN_self (l : List Zn) (f : Nat) : offN l f f = false := by
 unfold offN
 rw [List.drop_eq_nil_of_le (by rw [List.length_take]; omega)]
 rfl
theorem offN_mono (l : List Zn) {f j e : Nat} (h : offN l f j = true) (he : j ≤ e) : offN l f e = true := by
 unfold offN at *
 rw [List.any_eq_true] at *
 obtain ⟨x, hx, h2⟩ := h
 refine ⟨x, ?_, h2⟩
 have hp : (l.take j).drop f <+: (l.take e).drop f := by
  obtain ⟨d, rfl⟩ : ∃ d, e = j + d := ⟨e - j, by omega⟩
  rw [List.take_add, List.drop_append]
  exact List.prefix_append _ _
 exact hp.subset hx
theorem lt_rows {sz lb nn j : Nat} (hs : 1 ≤ sz) (hn : 1 ≤ nn) : j * sz < lb + nn ↔ j < (lb + nn - 1) / sz + 1 := by
 rw [Nat.lt_add_one_iff, Nat.le_div_iff_mul_le hs]
 omega
theorem rread_st {z : Zs} {A : Option Addr} {ZI : List Value} (hs : St w0 X L w) (hm : At.rd A (ocs z.l) ∈ L) (ho : OkZ z) (hz : RZ z A ZI) (lba n : Int) (hn2 : n ≤ 9223372036854775807) :
  Calls Try.prog 49 #[.agg ZI.toArray, .int .i64 lba, .int .i64 n] w fun e w' => e = .returned (iv (readE z lba n)) ∧ St w0 X L w' := by
 obtain ⟨cc, hRZ⟩ := hz
 obtain ⟨ga, oa, rfl, _, _⟩ := (hs.hold _ hm).cells (ocs_ne (by rw [ho.1]; exact ho.2.1))
 obtain ⟨RL, hRL⟩ : ∃ RL, RL = ZI := ⟨_, rfl⟩
 rw [← hRL]
 rw [hRZ] at hRL
 obtain ⟨k, hk⟩ : ∃ n, n = z.l.length := ⟨_, rfl⟩
 have hk1 : k ≤ 4096 := by rw [hk, ho.1]; exact ho.2.2.1
 have hk0 : 1 ≤ k := by rw [hk, ho.1]; exact ho.2.1
 have RLL := Lib.hid (show RL.length = 7 by rw [hRL]; rfl)
 have RLO := Lib.hid (show ∀ v ∈ RL, v.oneCell' = true by rw [hRL]; exact zcl_one _ _ _)
 have R5 := Lib.hid (show RL[5]? = some (.slice (some ⟨ga, oa, none⟩) k cc) by rw [hRL, hk]; rfl)
 obtain ⟨sz, hsz⟩ : ∃ n, n = z.c.sz := ⟨_, rfl⟩
 have R1 := Lib.hid (show RL[1]? = some (iv sz) by rw [hRL, hsz]; rfl)
 have hsz1 : 1 ≤ sz := by rw [hsz]; exact ho.2.2.2.1
 have hsz2 : sz ≤ 65536 := by rw [hsz]; exact ho.2.2.2.2.1
 by_cases hn : n < 1
 ·have f1 : decide (n < 1) = true := by simpa using hn
  have HB := Lib.hid (show readE z lba n = 2 by unfold readE; rw [if_pos hn])
  clear hn hRL hRZ hk hsz ho hm
  go_enter Try.func49, Try.ntmps49
  go_wp2_with (first | ((first | with_reducible refine Se.ab hs ?_ | with_reducible refine Se.abc hs ?_); clear hs; (first | (generalize w.heap.size = g3; intro w hs))))
  go_ret
  exact ⟨by rw [HB.out]; rfl, hs.drop⟩
 obtain ⟨nn, rfl⟩ : ∃ m : Nat, n = (m : Int) := ⟨n.toNat, by omega⟩
 have hn1 : 1 ≤ nn := by omega
 have f1 : decide ((nn : Int) < 1) = false := by simp; omega
 have HNN := Lib.hid hn
 clear hn
 have HW0 := Lib.hid (show readE z lba (nn : Int) = _ by unfold readE; rw [if_neg HNN.out, Int.toNat_natCast])
 cases hin : insd z lba (nn : Int) with
 | false =>
  have HB := Lib.hid (show readE z lba (nn : Int) = 128 by rw [HW0.out, if_pos hin])
  have CI : Hid (∀ (L : List At) (w : World), St w0 X L w → Calls Try.prog 80 #[.agg RL.toArray, .int .i64 lba, .int .i64 (nn : Int)] w fun e w' => e = .returned (.bool false) ∧ St w0 X L w') := Lib.hid (fun L w hs => by rw [← hin, hRL]; exact rinside_v hs ho (by omega) hn2)
  clear hin hRL hRZ hk hsz ho hm HW0 hn2
  go_enter Try.func49, Try.ntmps49
  go_wp2_with (first | ((with_reducible refine Se.isL (o := ⟨some 10, _, _, _, _, _⟩) ?_); (refine Se.toL rfl (Se.ldw (o := ⟨some 10, _, _, _, _, _⟩) hs rfl rfl ((Reads.blk 0 rfl)) ((by rw [RLL.out]; kernel_rfl)) (by kernel_rfl) ?_))) | ((first | with_reducible refine Se.ab hs ?_ | with_reducible refine Se.abc hs ?_); clear hs; (first | (generalize w.heap.size = g3; intro w hs))) | (go_at_call 80; refine Calls.mono (CI.out _ _ hs) ?_; clear hs; rintro e w ⟨rfl, hs⟩))
  go_ret
  exact ⟨by rw [HB.out]; rfl, hs.drop⟩
 | true =>
 have CI : Hid (∀ (L : List At) (w : World), St w0 X L w → Calls Try.prog 80 #[.agg RL.toArray, .int .i64 lba, .int .i64 (nn : Int)] w fun e w' => e = .returned (.bool true) ∧ St w0 X L w') := Lib.hid (fun L w hs => by rw [← hin, hRL]; exact rinside_v hs ho (by omega) hn2)
 have HIN := Lib.hid hin
 obtain ⟨lb, rfl⟩ : ∃ m : Nat, lba = (m : Int) := ⟨lba.toNat, by have := insd_pos hin; omega⟩
 obtain ⟨i, hi0⟩ : ∃ i, i = lb / sz := ⟨_, rfl⟩
 obtain ⟨at0, hat⟩ : ∃ i, i = lb % sz := ⟨_, rfl⟩
 have hii := insd_i ho (m := nn) hin hn1
 rw [← hsz, ← hi0, ← hat] at hii
 obtain ⟨hi, hlb, hats⟩ := hii
 have d1 : ((lb : Int)).tdiv (sz : Int) = (i : Int) := by rw [Int.tdiv_eq_ediv_of_nonneg (by omega), hi0]; rfl
 have d2 : ((lb : Int)).tmod (sz : Int) = (at0 : Int) := by rw [Int.tmod_eq_emod_of_nonneg (by omega), hat]; rfl
 have d0 : ¬ ((sz : Int) = 0) := by omega
 have d3 : ((sz : Int) == 0) = false := by simp; omega
 have d4 : ¬ sz = 0 := by omega
 have hall : lb + nn ≤ z.c.n * sz ∧ z.c.n * sz ≤ 4096 * 65536 := by
  have h := hin
  unfold insd at h
  simp only [decide_eq_true_eq] at h
  rw [← hsz] at h
  refine ⟨by omega, Nat.mul_le_mul ho.2.2.1 hsz2⟩
 obtain ⟨l, hl⟩ : ∃ l, l = z.l := ⟨_, rfl⟩
 have HKL := Lib.hid (show l.length = k by rw [hl, hk])
 have HMR := Lib.hid (show Reads L (some ⟨ga, oa, none⟩) (ocs l) by rw [hl]; exact Reads.rdm hm)
 obtain ⟨e, he⟩ : ∃ e, e = (lb + nn - 1) / sz + 1 := ⟨_, rfl⟩
 have HE : Hid (∀ j, j * sz < lb + nn ↔ j < e) := Lib.hid (fun j => by rw [he]; exact lt_rows hsz1 hn1)
 have hek : e ≤ k := by
  have : ¬ k < e := by
   rw [← HE.out k, hk, ho.1]; omega
  omega
 have HW : Hid (readE z (lb : Int) (nn : Int) = if offN l i e = true then 187 else 0) := Lib.hid (by
  rw [HW0.out, if_neg (by rw [hin]; decide), Int.toNat_natCast, ← hsz, ← hi0, ← he, ← hl])
 have hnb : lb + nn ≤ 268435456 := by omega
 have hie : i ≤ e := by rw [hi0, he]; exact Nat.le_succ_of_le (Nat.div_le_div_right (by omega))
 have hk1' : k ≤ 4096 := hk1
 clear hin hRL hRZ hk hsz ho hm HW0 hn2 hi0 hat hl he hall hi
 go_enter Try.func49, Try.ntmps49
 go_wp2_with (first | ((with_reducible refine Se.isL (o := ⟨some 10, _, _, _, _, _⟩) ?_); (refine Se.toL rfl (Se.ldw (o := ⟨some 10, _, _, _, _, _⟩) hs rfl rfl ((Reads.blk 0 rfl)) ((by rw [RLL.out]; kernel_rfl)) (by kernel_rfl) ?_))) | ((with_reducible refine Se.isL (o := ⟨some 18, _, _, _, _, _⟩) ?_); (refine Se.toL rfl (Se.ld (o := ⟨some 18, _, _, _, _, _⟩) hs rfl rfl (Cell.blk 0 rfl R1.out) (by kernel_rfl) ?_))) | ((first | with_reducible refine Se.ab hs ?_ | with_reducible refine Se.abc hs ?_); clear hs; (first | (generalize w.heap.size = g3; intro w hs))) | (go_at_call 80; refine Calls.mono (CI.out _ _ hs) ?_; clear hs; rintro e w ⟨rfl, hs⟩))
 clear CI f1 d1 d2
 go_loopg [7] (e - i) (fun gh s7 wr => ∃ j : Nat, gh = e - j ∧ i ≤ j ∧ j ≤ e ∧ s7 = .int .i64 (j : Int) ∧ Hid (offN l i j = false) ∧ St w0 X (.blk g3 43 RL :: L) wr)
 case atStart => exact ⟨i, rfl, Nat.le_refl _, hie, rfl, Lib.hid (offN_self l i), hs⟩
 case round =>
  clear hs
  rename World => w
  obtain ⟨j, rfl, hij, hj, rfl, HO, hs⟩ := hrel
  obtain ⟨js, hjs⟩ : ∃ m, m = j * sz := ⟨_, rfl⟩
  have hjs1 : js ≤ 268435456 := by rw [hjs]; exact (Nat.mul_le_mul (show j ≤ 4096 by omega) hsz2 : j * sz ≤ 4096 * 65536)
  have w3 : IntKind.i64.wrap ((j : Int) * (sz : Int)) = (js : Int) := by rw [← Int.natCast_mul, ← hjs]; exact IntWalk.i64_in _ (by omega)
  have hlt2 := HE.out j
  rw [← hjs] at hlt2
  by_cases hlt : j < e
  ·have f3 : decide ((js : Int) < (lb : Int) + (nn : Int)) = true := by simp; omega
   have hjl : j < l.length := by have := HKL.out; omega
   have hjk : (j : Int) < (k : Int) := by omega
   obtain ⟨st, hst⟩ : ∃ s, s = (l.getD j dz).st := ⟨_, rfl⟩
   have C0 := Lib.hid (show Cell L ga (oa + j * 3) (iv st) from rcell HMR.out hjl 0 (by decide) (by rw [hst]; rfl))
   have HS := Lib.hid (show offN l i (j + 1) = (st == 15) by rw [offN_step l hij hjl, HO.out, hst, Bool.false_or])
   clear hjs hlt2 hst hjl
   by_cases h15 : st = 15
   ·have f4 : ((st : Int) == 15) = true := by simp; omega
    have HB := Lib.hid (show readE z (lb : Int) (nn : Int) = 187 by rw [HW.out, if_pos (offN_mono l (by rw [HS.out, h15]; rfl) (show j + 1 ≤ e by omega))])
    clear h15 HW HS HO
    go_wp2_with (first | ((with_reducible refine Se.isL (o := ⟨some 23, _, _, _, _, _⟩) ?_); (refine Se.toL rfl (Se.ld (o := ⟨some 23, _, _, _, _, _⟩) hs rfl rfl (Cell.blk 0 rfl R1.out) (by kernel_rfl) ?_))) | ((with_reducible refine Se.isL (o := ⟨some 32, _, _, _, _, _⟩) ?_); (refine Se.toL rfl (Se.ld (o := ⟨some 32, _, _, _, _, _⟩) hs rfl rfl (Cell.blk 0 rfl R5.out) (by kernel_rfl) ?_))) | ((with_reducible refine Se.isL (o := ⟨some 36, _, _, _, _, _⟩) ?_); (refine Se.toL rfl (Se.ld (o := ⟨some 36, _, _, _, _, _⟩) hs rfl rfl ((capp [_] C0.out)) (by kernel_rfl) ?_))))
    go_ret
    exact ⟨by rw [HB.out]; rfl, hs.drop⟩
   ·have f4 : ((st : Int) == 15) = false := by simp; omega
    have HS2 := Lib.hid (show offN l i (j + 1) = false by rw [HS.out]; simpa using h15)
    clear h15 HS HO
    go_wp2_with (first | ((with_reducible refine Se.isL (o := ⟨some 23, _, _, _, _, _⟩) ?_); (refine Se.toL rfl (Se.ld (o := ⟨some 23, _, _, _, _, _⟩) hs rfl rfl (Cell.blk 0 rfl R1.out) (by kernel_rfl) ?_))) | ((with_reducible refine Se.isL (o := ⟨some 32, _, _, _, _, _⟩) ?_); (refine Se.toL rfl (Se.ld (o := ⟨some 32, _, _, _, _, _⟩) hs rfl rfl (Cell.blk 0 rfl R5.out) (by kernel_rfl) ?_))) | ((with_reducible refine Se.isL (o := ⟨some 36, _, _, _, _, _⟩) ?_); (refine Se.toL rfl (Se.ld (o := ⟨some 36, _, _, _, _, _⟩) hs rfl rfl ((capp [_] C0.out)) (by kernel_rfl) ?_))))
    go_roundg (e - (j + 1))
    case measure => omega
    case rel => exact ⟨j + 1, rfl, by omega, by omega, by go_num, HS2, hs⟩
  ·obtain rfl : j = e := by omega
   have f3 : decide ((js : Int) < (lb : Int) + (nn : Int)) = false := by simp; omega
   have HB := Lib.hid (show readE z (lb : Int) (nn : Int) = 0 by rw [HW.out, HO.out]; rfl)
   clear hjs hlt2
   go_wp2_with (first | ((with_reducible refine Se.isL (o := ⟨some 23, _, _, _, _, _⟩) ?_); (refine Se.toL rfl (Se.ld (o := ⟨some 23, _, _, _, _, _⟩) hs rfl rfl (Cell.blk 0 rfl R1.out) (by kernel_rfl) ?_))))
   go_ret
   exact ⟨by rw [HB.out]; rfl, hs.drop⟩
end Zo
end Go.Proofs.Ythpgkkfahiglnaa


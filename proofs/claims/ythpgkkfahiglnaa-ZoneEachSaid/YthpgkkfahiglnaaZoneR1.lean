/- Layer 28's reference: states, blocked, inside, set, Count, opens. No condition but Go's own limits. Printed by wip/gen_zoner1.py. -/
import Derived.Test.YthpgkkfahiglnaaZoneMeth
set_option maxRecDepth 100000
set_option maxHeartbeats 4000000
set_option linter.unusedSimpArgs false
set_option linter.unusedVariables false
namespace Go.Proofs.Ythpgkkfahiglnaa
open Go Go.RowKit
namespace Zo
open Se (St At Reads Cell)
open Li (Rd Blk Fr)
variable {w0 w : World} {X : List Nat} {L : List At}
attribute [local irreducible] Calls
attribute [local go_sem] eql_nil
theorem ocs_ne {l : List Zn} (h : 1 ≤ l.length) : ocs l ≠ [] := by
 intro h0
 have := ocs_len l
 rw [h0] at this
 simp at this
 omega
theorem rcell {ga oa : Nat} {l : List Zn} (hr : Reads L (some ⟨ga, oa, none⟩) (ocs l)) {i : Nat} (h : i < l.length) (j : Nat) (hj : j < 3) {v : Value} (hv : (oc (l.getD i dz))[j]? = some v) : Cell L ga (oa + i * 3 + j) v := by
 rw [getD_get h] at hv
 have h1 := hr.cell (i * 3 + j) (v := v) (by rw [ocs_at l i h j hj]; exact hv)
 rw [← Nat.add_assoc] at h1
 exact h1
theorem zRz : (Try.prog.info? 43).bind (fun i => i.zero.map (·.cells.toList)) = some (zcl { c := ⟨0, 0, 0, 0, 0⟩, l := [] } none 0) := by kernel_rfl
theorem zRo : (Try.prog.info? 67).bind (fun i => i.zero.map (·.cells.toList)) = some (oc { st := 0 }) := by kernel_rfl
theorem rone_i : (Try.prog.info? 67).map (fun i => (i.zero, i.size, i.bytes)) = some (some (.agg (oc { st := 0 }).toArray), 3, 24) := by kernel_rfl
theorem ropen_v (hs : St w0 X L w) (s : Nat) : Calls Try.prog 78 #[iv s] w fun e w' => e = .returned (.bool (opn s)) ∧ St w0 X L w' := by
 by_cases h2 : s = 2
 ·subst h2
  go_enter Try.func78, Try.ntmps78
  go_wp2_with fail
  go_ret
  exact ⟨rfl, hs⟩
 have d2 : ((s : Int) == 2) = false := by simp; omega
 by_cases h3 : s = 3
 ·subst h3
  go_enter Try.func78, Try.ntmps78
  go_wp2_with fail
  go_ret
  exact ⟨rfl, hs⟩
 have d3 : ((s : Int) == 3) = false := by simp; omega
 have HO := Lib.hid (show opn s = false by simp [opn, h2, h3])
 clear h2 h3
 go_enter Try.func78, Try.ntmps78
 go_wp2_with fail
 go_ret
 exact ⟨by rw [HO.out]; rfl, hs⟩
theorem ractive_v (hs : St w0 X L w) (s : Nat) : Calls Try.prog 79 #[iv s] w fun e w' => e = .returned (.bool (atv s)) ∧ St w0 X L w' := by
 by_cases h2 : 2 ≤ s
 ·have d2 : decide (2 ≤ (s : Int)) = true := by simp; omega
  by_cases h4 : s ≤ 4
  ·have d4 : decide ((s : Int) ≤ 4) = true := by simp; omega
   have HO := Lib.hid (show atv s = true by
    have : s = 2 ∨ s = 3 ∨ s = 4 := by omega
    rcases this with rfl | rfl | rfl <;> rfl)
   clear h2 h4
   go_enter Try.func79, Try.ntmps79
   go_wp2_with fail
   go_ret
   exact ⟨by rw [HO.out]; rfl, hs⟩
  ·have d4 : decide ((s : Int) ≤ 4) = false := by simp; omega
   have HO := Lib.hid (show atv s = false by simp [atv, opn]; omega)
   clear h2 h4
   go_enter Try.func79, Try.ntmps79
   go_wp2_with fail
   go_ret
   exact ⟨by rw [HO.out]; rfl, hs⟩
 ·have d2 : decide (2 ≤ (s : Int)) = false := by simp; omega
  have HO := Lib.hid (show atv s = false by simp [atv, opn]; omega)
  clear h2
  go_enter Try.func79, Try.ntmps79
  go_wp2_with fail
  go_ret
  exact ⟨by rw [HO.out]; rfl, hs⟩
theorem rblocked_v (hs : St w0 X L w) (s : Nat) : Calls Try.prog 81 #[iv s] w fun e w' => e = .returned (iv (blkd s)) ∧ St w0 X L w' := by
 by_cases h1 : s = 14
 ·subst h1
  go_enter Try.func81, Try.ntmps81
  go_wp2_with fail
  go_ret
  exact ⟨rfl, hs⟩
 have d1 : ((s : Int) == 14) = false := by simp; omega
 by_cases h2 : s = 13
 ·subst h2
  go_enter Try.func81, Try.ntmps81
  go_wp2_with fail
  go_ret
  exact ⟨rfl, hs⟩
 have d2 : ((s : Int) == 13) = false := by simp; omega
 by_cases h3 : s = 15
 ·subst h3
  go_enter Try.func81, Try.ntmps81
  go_wp2_with fail
  go_ret
  exact ⟨rfl, hs⟩
 have d3 : ((s : Int) == 15) = false := by simp; omega
 have HO := Lib.hid (show blkd s = 0 by simp [blkd, h1, h2, h3])
 clear h1 h2 h3
 go_enter Try.func81, Try.ntmps81
 go_wp2_with fail
 go_ret
 exact ⟨by rw [HO.out]; rfl, hs⟩
theorem rinside_v {z : Zs} {A : Option Addr} {cc : Nat} (hs : St w0 X L w) (ho : OkZ z) {lba n : Int} (hn : 0 ≤ n) (hn2 : n ≤ 9223372036854775807) : Calls Try.prog 80 #[.agg (zcl z A cc).toArray, .int .i64 lba, .int .i64 n] w fun e w' => e = .returned (.bool (insd z lba n)) ∧ St w0 X L w' := by
 obtain ⟨RL, hRL⟩ : ∃ RL, RL = zcl z A cc := ⟨_, rfl⟩
 obtain ⟨zn, hzn⟩ : ∃ n, n = z.c.n := ⟨_, rfl⟩
 obtain ⟨sz, hsz⟩ : ∃ n, n = z.c.sz := ⟨_, rfl⟩
 obtain ⟨al, hal⟩ : ∃ n, n = zn * sz := ⟨_, rfl⟩
 have hk1 : zn ≤ 4096 := by rw [hzn]; exact ho.2.2.1
 have hs1 : sz ≤ 65536 := by rw [hsz]; exact ho.2.2.2.2.1
 have hal1 : al ≤ 268435456 := by rw [hal]; exact Nat.mul_le_mul hk1 hs1
 have R0 := Lib.hid (show RL[0]? = some (iv zn) by rw [hRL, hzn]; rfl)
 have R1 := Lib.hid (show RL[1]? = some (iv sz) by rw [hRL, hsz]; rfl)
 have w1 : IntKind.i64.wrap ((zn : Int) * (sz : Int)) = (al : Int) := by rw [← Int.natCast_mul, ← hal]; exact IntWalk.i64_in _ (by omega)
 have HQ := Lib.hid (show insd z lba n = decide (0 ≤ lba ∧ lba ≤ (al : Int) ∧ n ≤ (al : Int) - lba) by unfold insd; rw [← hzn, ← hsz, ← hal])
 rw [← hRL]
 clear hRL hzn hsz hal ho
 by_cases q1 : 0 ≤ lba
 rotate_left
 ·have d1 : decide (0 ≤ lba) = false := by simpa using q1

  have HR2 := Lib.hid (show insd z lba n = false by rw [HQ.out]; simp; omega)
  clear HQ q1 hn hn2
  go_enter Try.func80, Try.ntmps80
  go_wp2_with (first | ((with_reducible refine Se.isL (o := ⟨some 10, _, _, _, _, _⟩) ?_); (refine Se.toL rfl (Se.ld (o := ⟨some 10, _, _, _, _, _⟩) hs rfl rfl (Cell.blk 0 rfl R0.out) (by kernel_rfl) ?_))) | ((with_reducible refine Se.isL (o := ⟨some 13, _, _, _, _, _⟩) ?_); (refine Se.toL rfl (Se.ld (o := ⟨some 13, _, _, _, _, _⟩) hs rfl rfl (Cell.blk 0 rfl R1.out) (by kernel_rfl) ?_))) | ((first | with_reducible refine Se.ab hs ?_ | with_reducible refine Se.abc hs ?_); clear hs; (first | (generalize w.heap.size = g3; intro w hs))))
  go_ret
  exact ⟨by rw [HR2.out]; rfl, hs.drop⟩
 have d1 : decide (0 ≤ lba) = true := by simpa using q1
 by_cases q2 : lba ≤ (al : Int)
 rotate_left
 ·have d2 : decide (lba ≤ (al : Int)) = false := by simpa using q2

  have HR2 := Lib.hid (show insd z lba n = false by rw [HQ.out]; simp; omega)
  clear HQ q2 hn hn2
  go_enter Try.func80, Try.ntmps80
  go_wp2_with (first | ((with_reducible refine Se.isL (o := ⟨some 10, _, _, _, _, _⟩) ?_); (refine Se.toL rfl (Se.ld (o := ⟨some 10, _, _, _, _, _⟩) hs rfl rfl (Cell.blk 0 rfl R0.out) (by kernel_rfl) ?_))) | ((with_reducible refine Se.isL (o := ⟨some 13, _, _, _, _, _⟩) ?_); (refine Se.toL rfl (Se.ld (o := ⟨some 13, _, _, _, _, _⟩) hs rfl rfl (Cell.blk 0 rfl R1.out) (by kernel_rfl) ?_))) | ((first | with_reducible refine Se.ab hs ?_ | with_reducible refine Se.abc hs ?_); clear hs; (first | (generalize w.heap.size = g3; intro w hs))))
  go_ret
  exact ⟨by rw [HR2.out]; rfl, hs.drop⟩
 have d2 : decide (lba ≤ (al : Int)) = true := by simpa using q2
 have w2 : IntKind.i64.wrap ((al : Int) - lba) = (al : Int) - lba := IntWalk.i64_in _ (by omega)
 by_cases q3 : n ≤ (al : Int) - lba
 ·have d3 : decide (n ≤ (al : Int) - lba) = true := by simpa using q3

  have HR2 := Lib.hid (show insd z lba n = true by rw [HQ.out]; simp; omega)
  clear HQ q3 hn hn2
  go_enter Try.func80, Try.ntmps80
  go_wp2_with (first | ((with_reducible refine Se.isL (o := ⟨some 10, _, _, _, _, _⟩) ?_); (refine Se.toL rfl (Se.ld (o := ⟨some 10, _, _, _, _, _⟩) hs rfl rfl (Cell.blk 0 rfl R0.out) (by kernel_rfl) ?_))) | ((with_reducible refine Se.isL (o := ⟨some 13, _, _, _, _, _⟩) ?_); (refine Se.toL rfl (Se.ld (o := ⟨some 13, _, _, _, _, _⟩) hs rfl rfl (Cell.blk 0 rfl R1.out) (by kernel_rfl) ?_))) | ((first | with_reducible refine Se.ab hs ?_ | with_reducible refine Se.abc hs ?_); clear hs; (first | (generalize w.heap.size = g3; intro w hs))))
  go_ret
  exact ⟨by rw [HR2.out]; rfl, hs.drop⟩
 ·have d3 : decide (n ≤ (al : Int) - lba) = false := by simpa using q3

  have HR2 := Lib.hid (show insd z lba n = false by rw [HQ.out]; simp; omega)
  clear HQ q3 hn hn2
  go_enter Try.func80, Try.ntmps80
  go_wp2_with (first | ((with_reducible refine Se.isL (o := ⟨some 10, _, _, _, _, _⟩) ?_); (refine Se.toL rfl (Se.ld (o := ⟨some 10, _, _, _, _, _⟩) hs rfl rfl (Cell.blk 0 rfl R0.out) (by kernel_rfl) ?_))) | ((with_reducible refine Se.isL (o := ⟨some 13, _, _, _, _, _⟩) ?_); (refine Se.toL rfl (Se.ld (o := ⟨some 13, _, _, _, _, _⟩) hs rfl rfl (Cell.blk 0 rfl R1.out) (by kernel_rfl) ?_))) | ((first | with_reducible refine Se.ab hs ?_ | with_reducible refine Se.abc hs ?_); clear hs; (first | (generalize w.heap.size = g3; intro w hs))))
  go_ret
  exact ⟨by rw [HR2.out]; rfl, hs.drop⟩
theorem rset_st {z : Zs} {A : Option Addr} {cc : Nat} (hs : St w0 X L w) (hm : At.rd A (ocs z.l) ∈ L) (ho : OkZ z) {i : Nat} (hi : i < z.l.length) (x : Zn) :
  Calls Try.prog 84 #[.agg (zcl z A cc).toArray, .int .i64 (i : Int), .agg (oc x).toArray] w fun e w' => ∃ A' c', e = .returned (.agg (zcl (putS z i x) A' c').toArray) ∧ St w0 X (.rd A' (ocs (putS z i x).l) :: L) w' := by
 obtain ⟨ga, oa, rfl, _, _⟩ := (hs.hold _ hm).cells (ocs_ne (by rw [ho.1]; exact ho.2.1))
 obtain ⟨RL, hRL⟩ : ∃ RL, RL = zcl z (some ⟨ga, oa, none⟩) cc := ⟨_, rfl⟩
 obtain ⟨k, hk⟩ : ∃ n, n = z.l.length := ⟨_, rfl⟩
 have hk1 : k ≤ 4096 := by rw [hk, ho.1]; exact ho.2.2.1
 have hk0 : 1 ≤ k := by rw [hk, ho.1]; exact ho.2.1
 have RLL := Lib.hid (show RL.length = 7 by rw [hRL]; rfl)
 have RLO := Lib.hid (show ∀ v ∈ RL, v.oneCell' = true by rw [hRL]; exact zcl_one _ _ _)
 have R5 := Lib.hid (show RL[5]? = some (.slice (some ⟨ga, oa, none⟩) k cc) by rw [hRL, hk]; rfl)
 obtain ⟨O, hO⟩ : ∃ O, O = oc x := ⟨_, rfl⟩
 have OL := Lib.hid (show O.length = 3 by rw [hO]; rfl)
 have OO := Lib.hid (show ∀ v ∈ O, v.oneCell' = true by rw [hO]; exact oc_one x)
 have HR : Hid (Reads L (some ⟨ga, oa, none⟩) (ocs z.l)) := Lib.hid (Reads.rdm hm)
 have HL := Lib.hid (show (ocs z.l).length = k * 3 by rw [ocs_len, hk])
 have HO := Lib.hid (ocs_one z.l)
 have HRL2 : Hid (∀ a' c', RL.set 5 (.slice (some a') k c') = zcl (putS z i x) (some a') c') := Lib.hid (fun a' c' => by rw [hRL, hk]; unfold zcl putS; dsimp only; rw [List.length_set]; rfl)
 have RS5 : Hid (∀ (a' : Addr) (c' : Nat), (RL.set 5 (.slice (some a') k c'))[5]? = some (.slice (some a') k c')) := Lib.hid (fun a' c' => by rw [hRL]; rfl)
 have RSL : Hid (∀ (a' : Addr) (c' : Nat), (RL.set 5 (.slice (some a') k c')).length = 7) := Lib.hid (fun a' c' => by rw [List.length_set, RLL.out])
 have RSO : Hid (∀ (a' : Addr) (c' : Nat), ∀ v ∈ RL.set 5 (.slice (some a') k c'), v.oneCell' = true) := Lib.hid (fun a' c' => by rw [HRL2.out]; exact zcl_one _ _ _)
 have ZL := Lib.hid (show (zcl { c := ⟨0, 0, 0, 0, 0⟩, l := [] } none 0).length = 7 from rfl)
 have CE := Lib.hid (ocs_row_set z.l i hi x)
 have LE3 := Lib.hid (show i * 3 + 3 ≤ (ocs z.l).length by rw [ocs_len]; omega)
 have hik : (i : Int) < (k : Int) := by omega
 have HPL : Hid ((putS z i x).l = z.l.set i x) := Lib.hid rfl
 rw [← hRL, ← hO]
 rw [← hO] at CE
 clear hRL hk hO hi hm ho
 go_enter Try.func84, Try.ntmps84
 go_upto_region 2 with (first | ((with_reducible refine Se.isL (o := ⟨some 6, _, _, _, _, _⟩) ?_); (refine Se.toL rfl (Se.al (o := ⟨some 6, _, _, _, _, _⟩) hs rfl (zRz) ?_); clear hs; rintro w g6 - hs)) | ((with_reducible refine Se.isL (o := ⟨some 7, _, _, _, _, _⟩) ?_); (refine Se.toL rfl (Se.bs0 (o := ⟨some 7, _, _, _, _, _⟩) hs rfl Try.underlying41 (by kernel_rfl) ?_); clear hs; rintro w g7 - hs; replace hs := hs.blk_own 3 0 0 (by simp) (Nat.le_refl _) (by decide); simp only [Nat.zero_mul, List.take_zero] at hs)) | ((with_reducible refine Se.isL (o := ⟨some 9, _, _, _, _, _⟩) ?_); (refine Se.toL rfl (Se.ld (o := ⟨some 9, _, _, _, _, _⟩) hs rfl rfl (Cell.blk 3 rfl R5.out) (by kernel_rfl) ?_))) | ((with_reducible refine Se.isL (o := ⟨some 10, _, _, _, _, _⟩) ?_); (refine Se.toL rfl (Se.ap (o := ⟨some 10, _, _, _, _, _⟩) 0 hs rfl rfl rfl rfl ((HR.out.app [_, _, _, _])) Try.underlying41 rone_i (one_z) (by decide) (HO.out) ((HL.out)) ((by omega)) ((by omega)) ?_); clear hs; rintro w r B c' hs; try simp only [List.cons_append, List.nil_append, List.set_cons_zero] at hs; try simp only [Nat.zero_add, List.nil_append] at hs; try simp only [Nat.zero_add])) | ((with_reducible refine Se.isL (o := ⟨none, _, _, _, _, _⟩) ?_); ((first | refine Se.toL rfl (Se.so 3 (v := .int _ _) hs rfl rfl rfl rfl rfl (by kernel_rfl) (by rw [RLL.out]; decide) ?_) | refine Se.toL rfl (Se.so 3 (v := .bool _) hs rfl rfl rfl rfl rfl (by kernel_rfl) (by rw [RLL.out]; decide) ?_) | refine Se.toL rfl (Se.so 3 (v := .slice _ _ _) hs rfl rfl rfl rfl rfl (by kernel_rfl) (by rw [RLL.out]; decide) ?_) | refine Se.toL rfl (Se.so 3 (v := .pointer _) hs rfl rfl rfl rfl rfl (by kernel_rfl) (by rw [RLL.out]; decide) ?_) | refine Se.toL rfl (Se.so 3 (v := .string _) hs rfl rfl rfl rfl rfl (by kernel_rfl) (by rw [RLL.out]; decide) ?_) | refine Se.toL rfl (Se.so 3 (v := .map _) hs rfl rfl rfl rfl rfl (by kernel_rfl) (by rw [RLL.out]; decide) ?_) | refine Se.toL rfl (Se.so 3 (v := .func _ _ _) hs rfl rfl rfl rfl rfl (by kernel_rfl) (by rw [RLL.out]; decide) ?_) | refine Se.toL rfl (Se.so 3 (v := .nilFunc) hs rfl rfl rfl rfl rfl (by kernel_rfl) (by rw [RLL.out]; decide) ?_)); clear hs; intro w hs; try simp only [List.cons_append, List.nil_append, List.set_cons_zero, List.set_cons_succ] at hs)) | ((first | with_reducible refine Se.ab hs ?_ | with_reducible refine Se.abc hs ?_); clear hs; (first | ((fail_if_success (have _q := g3)); generalize w.heap.size = g3; intro w hs) | (generalize w.heap.size = g5; intro w hs))))
 obtain ⟨gb, ob, rfl, rfl⟩ := hs.own_at 0 rfl (by omega)
 go_wp2_with (first | ((with_reducible refine Se.isL (o := ⟨some 13, _, _, _, _, _⟩) ?_); (refine Se.toL rfl (Se.ld (o := ⟨some 13, _, _, _, _, _⟩) hs rfl rfl (Cell.blk 3 rfl (RS5.out _ _)) (by kernel_rfl) ?_))) | ((with_reducible refine Se.isL (o := ⟨some 15, _, _, _, _, _⟩) ?_); (refine Se.toL rfl (Se.ldw (o := ⟨some 15, _, _, _, _, _⟩) hs rfl rfl ((Reads.blk 2 rfl)) ((by rw [OL.out]; kernel_rfl)) (by kernel_rfl) ?_))) | ((with_reducible refine Se.isL (o := ⟨none, _, _, _, _, _⟩) ?_); (refine Se.toL rfl (Se.soae 0 hs rfl rfl rfl rfl (OO.out) ((by rw [OL.out]; kernel_rfl)) ((by rw [OL.out]; decide)) (rfl) ((by rw [OL.out]; exact LE3.out)) ((show _ = ocs (z.l.set i x) by rw [OL.out]; exact CE.out)) ?_); clear hs; intro w hs; try simp only [List.cons_append, List.nil_append, List.set_cons_zero] at hs)) | ((with_reducible refine Se.isL (o := ⟨some 17, _, _, _, _, _⟩) ?_); (refine Se.toL rfl (Se.ldw (o := ⟨some 17, _, _, _, _, _⟩) hs rfl rfl ((Reads.blk 3 rfl)) ((by rw [RSL.out]; kernel_rfl)) (by kernel_rfl) ?_))) | ((with_reducible refine Se.isL (o := ⟨none, _, _, _, _, _⟩) ?_); (refine Se.toL rfl (Se.sow 1 hs rfl rfl rfl rfl ((RSO.out _ _)) ((by rw [RSL.out]; kernel_rfl)) ((by rw [RSL.out, ZL.out])) ?_); clear hs; intro w hs; try simp only [List.cons_append, List.nil_append, List.set_cons_zero, List.set_cons_succ] at hs)))
 refine bodyPost_ret (v := .agg (RL.set 5 (.slice (some ⟨gb, ob, none⟩) k c')).toArray) ?_ rfl ?_
 ·exact run_results_row hs rfl rfl (Reads.blk 1 rfl) (by kernel_rfl) (by rw [RSL.out] <;> kernel_rfl)
 ·refine ⟨some ⟨gb, ob, none⟩, c', by rw [HRL2.out], ?_⟩
  rw [HPL.out]
  exact (hs.sub (List.Sublist.cons_cons _ (.cons _ (.cons _ (.cons _ (List.Sublist.refl _)))))).own_rd
theorem rcount_st {z : Zs} {A : Option Addr} {cc : Nat} (hs : St w0 X L w) (hm : At.rd A (ocs z.l) ∈ L) (ho : OkZ z) :
  Calls Try.prog 46 #[.agg (zcl z A cc).toArray] w fun e w' => e = .returned (.tuple #[iv (cntO z.l), iv (cntA z.l)]) ∧ St w0 X L w' := by
 obtain ⟨ga, oa, rfl, _, _⟩ := (hs.hold _ hm).cells (ocs_ne (by rw [ho.1]; exact ho.2.1))
 obtain ⟨RL, hRL⟩ : ∃ RL, RL = zcl z (some ⟨ga, oa, none⟩) cc := ⟨_, rfl⟩
 obtain ⟨k, hk⟩ : ∃ n, n = z.l.length := ⟨_, rfl⟩
 have hk1 : k ≤ 4096 := by rw [hk, ho.1]; exact ho.2.2.1
 have hk0 : 1 ≤ k := by rw [hk, ho.1]; exact ho.2.1
 have RLL := Lib.hid (show RL.length = 7 by rw [hRL]; rfl)
 have RLO := Lib.hid (show ∀ v ∈ RL, v.oneCell' = true by rw [hRL]; exact zcl_one _ _ _)
 have R5 := Lib.hid (show RL[5]? = some (.slice (some ⟨ga, oa, none⟩) k cc) by rw [hRL, hk]; rfl)
 obtain ⟨l, hl⟩ : ∃ l, l = z.l := ⟨_, rfl⟩
 have HR : Hid (Reads L (some ⟨ga, oa, none⟩) (ocs l)) := Lib.hid (by rw [hl]; exact Reads.rdm hm)
 have HKL := Lib.hid (show l.length = k by rw [hl, hk])
 rw [← hRL, ← hl]
 clear hRL hk hl hm ho
 go_enter Try.func46, Try.ntmps46
 go_wp2_with (first | ((first | with_reducible refine Se.ab hs ?_ | with_reducible refine Se.abc hs ?_); clear hs; (first | (generalize w.heap.size = g1; intro w hs))))
 go_loopg [4, 5, 6] k (fun gh s4 s5 s6 wr => ∃ j : Nat, gh = k - j ∧ j ≤ k ∧ s4 = .int .i64 ((l.take j).countP (fun x => opn x.st) : Nat) ∧ s5 = .int .i64 ((l.take j).countP (fun x => atv x.st) : Nat) ∧ s6 = .int .i64 (j : Int) ∧ St w0 X (.blk g1 43 RL :: L) wr)
 case atStart => exact ⟨0, rfl, Nat.zero_le _, rfl, rfl, rfl, hs⟩
 case round =>
  clear hs
  rename World => w
  obtain ⟨j, rfl, hj, rfl, rfl, rfl, hs⟩ := hrel
  obtain ⟨co, hco⟩ : ∃ c, c = (l.take j).countP (fun x => opn x.st) := ⟨_, rfl⟩
  obtain ⟨ca, hca⟩ : ∃ c, c = (l.take j).countP (fun x => atv x.st) := ⟨_, rfl⟩
  have hco1 : co ≤ 4096 := by rw [hco]; have := List.countP_le_length (p := fun x : Zn => opn x.st) (l := l.take j); rw [List.length_take] at this; omega
  have hca1 : ca ≤ 4096 := by rw [hca]; have := List.countP_le_length (p := fun x : Zn => atv x.st) (l := l.take j); rw [List.length_take] at this; omega
  rw [← hco, ← hca]
  by_cases hlt : j < k
  ·have hlt' : (j : Int) < (k : Int) := by omega
   have hjl : j < l.length := by have := HKL.out; omega
   obtain ⟨x, hx⟩ : ∃ x, x = l.getD j dz := ⟨_, rfl⟩
   obtain ⟨st, hst⟩ : ∃ p, p = x.st := ⟨_, rfl⟩
   have C0 := Lib.hid (show Cell L ga (oa + j * 3) (iv st) from rcell HR.out hjl 0 (by decide) (by rw [hst, hx]; rfl))
   obtain ⟨b1, hb1⟩ : ∃ b, b = opn st := ⟨_, rfl⟩
   obtain ⟨b2, hb2⟩ : ∃ b, b = atv st := ⟨_, rfl⟩
   have CO : Hid (∀ w, St w0 X (.blk g1 43 RL :: L) w → Calls Try.prog 78 #[iv st] w fun e w' => e = .returned (.bool b1) ∧ St w0 X (.blk g1 43 RL :: L) w') := Lib.hid (fun w hs => by rw [hb1]; exact ropen_v hs st)
   have CA : Hid (∀ w, St w0 X (.blk g1 43 RL :: L) w → Calls Try.prog 79 #[iv st] w fun e w' => e = .returned (.bool b2) ∧ St w0 X (.blk g1 43 RL :: L) w') := Lib.hid (fun w hs => by rw [hb2]; exact ractive_v hs st)
   have HEO := Lib.hid (show (l.take (j + 1)).countP (fun x => opn x.st) = co + (if b1 = true then 1 else 0) by rw [cnt_open_snoc l j hjl, hco, hb1, hst, hx, getD_get hjl])
   have HEA := Lib.hid (show (l.take (j + 1)).countP (fun x => atv x.st) = ca + (if b2 = true then 1 else 0) by rw [cnt_active_snoc l j hjl, hca, hb2, hst, hx, getD_get hjl])
   clear hx hst hb1 hb2 hco hca hjl
   cases b1 <;> cases b2
   all_goals
    go_wp2_with (first | ((with_reducible refine Se.isL (o := ⟨some 9, _, _, _, _, _⟩) ?_); (refine Se.toL rfl (Se.ld (o := ⟨some 9, _, _, _, _, _⟩) hs rfl rfl (Cell.blk 0 rfl R5.out) (by kernel_rfl) ?_))) | ((with_reducible refine Se.isL (o := ⟨some 15, _, _, _, _, _⟩) ?_); (refine Se.toL rfl (Se.ld (o := ⟨some 15, _, _, _, _, _⟩) hs rfl rfl (Cell.blk 0 rfl R5.out) (by kernel_rfl) ?_))) | ((with_reducible refine Se.isL (o := ⟨some 19, _, _, _, _, _⟩) ?_); (refine Se.toL rfl (Se.ld (o := ⟨some 19, _, _, _, _, _⟩) hs rfl rfl ((capp [_] C0.out)) (by kernel_rfl) ?_))) | ((with_reducible refine Se.isL (o := ⟨some 24, _, _, _, _, _⟩) ?_); (refine Se.toL rfl (Se.ld (o := ⟨some 24, _, _, _, _, _⟩) hs rfl rfl (Cell.blk 0 rfl R5.out) (by kernel_rfl) ?_))) | ((with_reducible refine Se.isL (o := ⟨some 28, _, _, _, _, _⟩) ?_); (refine Se.toL rfl (Se.ld (o := ⟨some 28, _, _, _, _, _⟩) hs rfl rfl ((capp [_] C0.out)) (by kernel_rfl) ?_))) | (go_at_call 78; refine Calls.mono (CO.out _ hs) ?_; clear hs; rintro e w ⟨rfl, hs⟩) | (go_at_call 79; refine Calls.mono (CA.out _ hs) ?_; clear hs; rintro e w ⟨rfl, hs⟩))
    go_roundg (k - (j + 1))
    case measure => omega
    case rel =>
     refine ⟨j + 1, rfl, by omega, ?_, ?_, by go_num, hs⟩
     ·rw [HEO.out]; first | rfl | (go_num; done)
     ·rw [HEA.out]; first | rfl | (go_num; done)
  ·obtain rfl : j = k := by omega
   have HEO := Lib.hid (show cntO l = co by rw [hco, ← HKL.out, List.take_length]; rfl)
   have HEA := Lib.hid (show cntA l = ca by rw [hca, ← HKL.out, List.take_length]; rfl)
   clear hco hca
   go_wp2_with (first | ((with_reducible refine Se.isL (o := ⟨some 9, _, _, _, _, _⟩) ?_); (refine Se.toL rfl (Se.ld (o := ⟨some 9, _, _, _, _, _⟩) hs rfl rfl (Cell.blk 0 rfl R5.out) (by kernel_rfl) ?_))))
   go_ret2
   exact ⟨by rw [HEO.out, HEA.out]; rfl, hs.drop⟩
end Zo
end Go.Proofs.Ythpgkkfahiglnaa


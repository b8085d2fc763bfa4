/- Layer 28's laws: ZoneConfigs. No condition but Go's own limits. Printed by wip/gen_zonelaw6.py. -/
import Derived.Test.YthpgkkfahiglnaaZoneMore
set_option linter.unusedSimpArgs false
set_option linter.unusedVariables false
namespace Go.Proofs.Ythpgkkfahiglnaa
open Go Go.RowKit
namespace Zo
open Se (St At Reads Cell)
open Li (Rd Blk Fr)
variable {w0 w : World} {X : List Nat} {L : List At}
attribute [local irreducible] Calls
attribute [local go_sem] eqC eqZ
set_option maxRecDepth 100000 in
set_option maxRecDepth 100000 in
set_option maxHeartbeats 4000000 in
theorem configs_no (hs : St w0 X L w) {n sz cap mo ma i : Int} (h : (60 < n ∧ n ≤ 4096) ∨ okC n sz cap mo ma = false) :
  Calls Try.prog 4 #[.agg #[.int .i64 n, .int .i64 sz, .int .i64 cap, .int .i64 mo, .int .i64 ma], .int .i64 i] w fun e w' => e = .returned (.bool true) ∧ St w0 X L w' := by
 obtain ⟨C, hC⟩ : ∃ C, C = [Value.int .i64 n, .int .i64 sz, .int .i64 cap, .int .i64 mo, .int .i64 ma] := ⟨_, rfl⟩
 have CLn := Lib.hid (show C.length = 5 by rw [hC]; rfl)
 have hC2 : #[Value.int .i64 n, .int .i64 sz, .int .i64 cap, .int .i64 mo, .int .i64 ma] = C.toArray := by rw [hC]
 obtain ⟨RZ0, hRZ0⟩ : ∃ R, R = zcl { c := ⟨0, 0, 0, 0, 0⟩, l := [] } none 0 := ⟨_, rfl⟩
 have ZL0 := Lib.hid (show RZ0.length = 7 by rw [hRZ0]; rfl)
 have ZO := Lib.hid (show ∀ v ∈ RZ0, v.oneCell' = true by rw [hRZ0]; exact zcl_one _ _ _)
 have zRz' := Lib.hid zRz
 rw [← hRZ0] at zRz'
 have R0 := Lib.hid (show C[0]? = some (.int .i64 n) by rw [hC]; rfl)
 by_cases h1 : 60 < n ∧ n ≤ 4096
 ·have f1 : decide (60 < n) = true := by simp; omega
  have f2 : decide (n ≤ 4096) = true := by simp; omega
  rw [hC2]
  clear h h1 hC hC2 hRZ0
  go_enter Try.func4, Try.ntmps4
  go_wp2_with (first | ((with_reducible refine Se.isL (o := ⟨some 12, _, _, _, _, _⟩) ?_); (refine Se.toL rfl (Se.ld (o := ⟨some 12, _, _, _, _, _⟩) hs rfl rfl (Cell.blk 0 rfl R0.out) (by kernel_rfl) ?_))) | ((with_reducible refine Se.isL (o := ⟨some 16, _, _, _, _, _⟩) ?_); (refine Se.toL rfl (Se.ld (o := ⟨some 16, _, _, _, _, _⟩) hs rfl rfl (Cell.blk 0 rfl R0.out) (by kernel_rfl) ?_))) | ((first | with_reducible refine Se.ab hs ?_ | with_reducible refine Se.abc hs ?_); clear hs; (first | (generalize w.heap.size = g2; intro w hs))) | (go_at_call 8; refine Calls.mono (works_st hs) ?_; clear hs; rintro e w ⟨rfl, hs⟩))
  go_ret
  exact ⟨rfl, hs.drop⟩
 have hno : okC n sz cap mo ma = false := by rcases h with h | h; exact absurd h h1; exact h
 have CN : Hid (∀ (L : List At) (w : World), St w0 X L w → Calls Try.prog 9 #[.agg C.toArray] w fun e w' => e = .returned (.tuple #[.pointer none, iv 2]) ∧ St w0 X L w') := Lib.hid (fun L w hs => by rw [← hC2]; exact new_no hs hno)
 have CR : Hid (∀ (L : List At) (w : World), St w0 X L w → Calls Try.prog 16 #[.agg C.toArray] w fun e w' => e = .returned (.tuple #[.agg RZ0.toArray, iv 2]) ∧ St w0 X L w') := Lib.hid (fun L w hs => by rw [← hC2, hRZ0]; exact rnew_no hs hno)
 rw [hC2]
 have H1 := Lib.hid h1
 clear h h1 hno hC hC2 hRZ0
 go_enter Try.func4, Try.ntmps4
 by_cases h60 : 60 < n
 ·have f1 : decide (60 < n) = true := by simpa using h60
  have f2 : decide (n ≤ 4096) = false := by have := H1.out; simp; omega
  clear h60
  go_wp2_with (first | ((with_reducible refine Se.isL (o := ⟨some 12, _, _, _, _, _⟩) ?_); (refine Se.toL rfl (Se.ld (o := ⟨some 12, _, _, _, _, _⟩) hs rfl rfl (Cell.blk 0 rfl R0.out) (by kernel_rfl) ?_))) | ((with_reducible refine Se.isL (o := ⟨some 16, _, _, _, _, _⟩) ?_); (refine Se.toL rfl (Se.ld (o := ⟨some 16, _, _, _, _, _⟩) hs rfl rfl (Cell.blk 0 rfl R0.out) (by kernel_rfl) ?_))) | ((with_reducible refine Se.isL (o := ⟨some 21, _, _, _, _, _⟩) ?_); (refine Se.toL rfl (Se.ldw (o := ⟨some 21, _, _, _, _, _⟩) hs rfl rfl ((Reads.blk 0 rfl)) ((by rw [CLn.out]; kernel_rfl)) (by kernel_rfl) ?_))) | ((with_reducible refine Se.isL (o := ⟨some 26, _, _, _, _, _⟩) ?_); (refine Se.toL rfl (Se.ldw (o := ⟨some 26, _, _, _, _, _⟩) hs rfl rfl ((Reads.blk 0 rfl)) ((by rw [CLn.out]; kernel_rfl)) (by kernel_rfl) ?_))) | ((with_reducible refine Se.isL (o := ⟨some 7, _, _, _, _, _⟩) ?_); (refine Se.toL rfl (Se.al (o := ⟨some 7, _, _, _, _, _⟩) hs rfl (zRz'.out) ?_); clear hs; rintro w g7 - hs)) | ((with_reducible refine Se.isL (o := ⟨none, _, _, _, _, _⟩) ?_); (refine Se.toL rfl (Se.sow 0 hs rfl rfl rfl rfl (ZO.out) ((by rw [ZL0.out]; kernel_rfl)) (rfl) ?_); clear hs; intro w hs; try simp only [List.cons_append, List.nil_append, List.set_cons_zero] at hs)) | ((first | with_reducible refine Se.ab hs ?_ | with_reducible refine Se.abc hs ?_); clear hs; (first | (generalize w.heap.size = g2; intro w hs))) | (go_at_call 9; refine Calls.mono (CN.out _ _ hs) ?_; clear hs; rintro e w ⟨rfl, hs⟩) | (go_at_call 16; refine Calls.mono (CR.out _ _ hs) ?_; clear hs; rintro e w ⟨rfl, hs⟩) | (go_at_call 10; refine Calls.mono (num_v hs 2) ?_; clear hs; rintro e w ⟨rfl, hs⟩) | (go_at_call 8; refine Calls.mono (works_st hs) ?_; clear hs; rintro e w ⟨rfl, hs⟩))
  go_ret
  exact ⟨rfl, hs.drop.drop⟩
 ·have f1 : decide (60 < n) = false := by simpa using h60
  clear h60
  go_wp2_with (first | ((with_reducible refine Se.isL (o := ⟨some 12, _, _, _, _, _⟩) ?_); (refine Se.toL rfl (Se.ld (o := ⟨some 12, _, _, _, _, _⟩) hs rfl rfl (Cell.blk 0 rfl R0.out) (by kernel_rfl) ?_))) | ((with_reducible refine Se.isL (o := ⟨some 21, _, _, _, _, _⟩) ?_); (refine Se.toL rfl (Se.ldw (o := ⟨some 21, _, _, _, _, _⟩) hs rfl rfl ((Reads.blk 0 rfl)) ((by rw [CLn.out]; kernel_rfl)) (by kernel_rfl) ?_))) | ((with_reducible refine Se.isL (o := ⟨some 26, _, _, _, _, _⟩) ?_); (refine Se.toL rfl (Se.ldw (o := ⟨some 26, _, _, _, _, _⟩) hs rfl rfl ((Reads.blk 0 rfl)) ((by rw [CLn.out]; kernel_rfl)) (by kernel_rfl) ?_))) | ((with_reducible refine Se.isL (o := ⟨some 7, _, _, _, _, _⟩) ?_); (refine Se.toL rfl (Se.al (o := ⟨some 7, _, _, _, _, _⟩) hs rfl (zRz'.out) ?_); clear hs; rintro w g7 - hs)) | ((with_reducible refine Se.isL (o := ⟨none, _, _, _, _, _⟩) ?_); (refine Se.toL rfl (Se.sow 0 hs rfl rfl rfl rfl (ZO.out) ((by rw [ZL0.out]; kernel_rfl)) (rfl) ?_); clear hs; intro w hs; try simp only [List.cons_append, List.nil_append, List.set_cons_zero] at hs)) | ((first | with_reducible refine Se.ab hs ?_ | with_reducible refine Se.abc hs ?_); clear hs; (first | (generalize w.heap.size = g2; intro w hs))) | (go_at_call 9; refine Calls.mono (CN.out _ _ hs) ?_; clear hs; rintro e w ⟨rfl, hs⟩) | (go_at_call 16; refine Calls.mono (CR.out _ _ hs) ?_; clear hs; rintro e w ⟨rfl, hs⟩) | (go_at_call 10; refine Calls.mono (num_v hs 2) ?_; clear hs; rintro e w ⟨rfl, hs⟩) | (go_at_call 8; refine Calls.mono (works_st hs) ?_; clear hs; rintro e w ⟨rfl, hs⟩))
  go_ret
  exact ⟨rfl, hs.drop.drop⟩
theorem zz_eq (w : World) : (binOp .eql 37 (.agg zz.toArray) (.agg #[Value.int .i64 0, .int .i64 0, .int .i64 0, .int .i64 0])).run Try.prog w = .ok (.bool true) w := eqZ 0 0 0 0 w
set_option maxRecDepth 100000 in
set_option maxRecDepth 100000 in
set_option maxHeartbeats 4000000 in
theorem configs_yes (hs : St w0 X L w) {c : Cf} (h : okC c.n c.sz c.cap c.mo c.ma = true) (h60 : c.n ≤ 60) (i : Int) :
  Calls Try.prog 4 #[.agg #[iv c.n, iv c.sz, iv c.cap, iv c.mo, iv c.ma], .int .i64 i] w fun e w' => e = .returned (.bool true) ∧ St w0 X L w' := by
 obtain ⟨C, hC⟩ : ∃ C, C = Zo.cl c := ⟨_, rfl⟩
 obtain ⟨n, hn⟩ : ∃ n, n = c.n := ⟨_, rfl⟩
 have R0 := Lib.hid (show C[0]? = some (iv n) by rw [hC, hn]; rfl)
 have CLn := Lib.hid (show C.length = 5 by rw [hC]; rfl)
 have hC2 : #[iv c.n, iv c.sz, iv c.cap, iv c.mo, iv c.ma] = C.toArray := by rw [hC]; rfl
 obtain ⟨RZ0, hRZ0⟩ : ∃ R, R = zcl { c := ⟨0, 0, 0, 0, 0⟩, l := [] } none 0 := ⟨_, rfl⟩
 have ZL0 := Lib.hid (show RZ0.length = 7 by rw [hRZ0]; rfl)
 have zRz' := Lib.hid zRz
 rw [← hRZ0] at zRz'
 have f1 : decide (60 < (n : Int)) = false := by simp; omega
 obtain ⟨z, hz0⟩ : ∃ z, z = newZ c := ⟨_, rfl⟩
 have CN : Hid (∀ (L : List At) (w : World), St w0 X L w → Calls Try.prog 9 #[.agg C.toArray] w fun e w' => ∃ g a r cc, e = .returned (.tuple #[.pointer (some ⟨g, 0, none⟩), iv 0]) ∧ St w0 X (pZ g z (some a) cc :: pL r (some a) cc z :: L) w') := Lib.hid (fun L w hs => by
  rw [← hC2, hz0]
  exact (new_yes hs h).mono (by rintro e w ⟨g, a, r, h1, h2⟩; exact ⟨g, a, r, _, h1, h2⟩))
 have CR : Hid (∀ (L : List At) (w : World), St w0 X L w → Calls Try.prog 16 #[.agg C.toArray] w fun e w' => ∃ A ZL, e = .returned (.tuple #[.agg ZL.toArray, iv 0]) ∧ RZ z A ZL ∧ St w0 X (.rd A (ocs z.l) :: L) w') := Lib.hid (fun L w hs => by
  rw [← hC2, hz0]
  refine (rnew_yes hs h).mono ?_
  rintro e w ⟨-, A, ZL, h1, h2, h3⟩
  exact ⟨A, ZL, h1, h2, h3⟩)
 have HO := Lib.hid (show OkZ z by rw [hz0]; exact OkZ.new h)
 have HKL := Lib.hid (show z.l.length = n by rw [hz0, hn]; exact List.length_replicate)
 have CC2 := Lib.hid (fun (L : List At) (w : World) (hs : St w0 X L w) => code_st hs 2 (by decide))
 rw [hC2]
 clear h h60 hC hC2 hRZ0 hn hz0
 go_enter Try.func4, Try.ntmps4
 go_upto_region 4 with (first | ((with_reducible refine Se.isL (o := ⟨some 12, _, _, _, _, _⟩) ?_); (refine Se.toL rfl (Se.ld (o := ⟨some 12, _, _, _, _, _⟩) hs rfl rfl (Cell.blk 0 rfl R0.out) (by kernel_rfl) ?_))) | ((with_reducible refine Se.isL (o := ⟨some 21, _, _, _, _, _⟩) ?_); (refine Se.toL rfl (Se.ldw (o := ⟨some 21, _, _, _, _, _⟩) hs rfl rfl ((Reads.blk 0 rfl)) ((by rw [CLn.out]; kernel_rfl)) (by kernel_rfl) ?_))) | ((first | with_reducible refine Se.ab hs ?_ | with_reducible refine Se.abc hs ?_); clear hs; (first | (generalize w.heap.size = g2; intro w hs))) | (go_at_call 9; refine Calls.mono (CN.out _ _ hs) ?_; clear hs; rintro e w ⟨g, a, r, cc, rfl, hs⟩))
 go_upto_region 5 with (first | ((with_reducible refine Se.isL (o := ⟨some 26, _, _, _, _, _⟩) ?_); (refine Se.toL rfl (Se.ldw (o := ⟨some 26, _, _, _, _, _⟩) hs rfl rfl ((Reads.blk 2 rfl)) ((by rw [CLn.out]; kernel_rfl)) (by kernel_rfl) ?_))) | ((with_reducible refine Se.isL (o := ⟨some 7, _, _, _, _, _⟩) ?_); (refine Se.toL rfl (Se.al (o := ⟨some 7, _, _, _, _, _⟩) hs rfl (zRz'.out) ?_); clear hs; rintro w g7 - hs)) | ((with_reducible refine Se.isL (o := ⟨none, _, _, _, _, _⟩) ?_); (refine Se.toL rfl (Se.sow 0 hs rfl rfl rfl rfl (hz.one) ((by rw [hz.len]; kernel_rfl)) ((by rw [hz.len, ZL0.out])) ?_); clear hs; intro w hs; try simp only [List.cons_append, List.nil_append, List.set_cons_zero] at hs)) | (go_at_call 16; refine Calls.mono (CR.out _ _ hs) ?_; clear hs; rintro e w ⟨A, ZI, rfl, hz, hs⟩))
 have ZLn := Lib.hid hz.len
 have HZ := Lib.hid hz
 clear hz CN CR f1
 replace hs := hs.pull 4 rfl
 replace hs := hs.pull 1 rfl
 replace hs := hs.pull 2 rfl
 replace hs := hs.pull 4 rfl
 replace hs := hs.pull 4 rfl
 simp only [List.eraseIdx_cons_succ, List.eraseIdx_cons_zero] at hs
 by_cases hin : i < 0 ∨ (n : Int) ≤ i
 ·have hzl : i < 0 ∨ (z.l.length : Int) ≤ i := by rw [HKL.out]; exact hin
  have CZ : Hid (∀ (M : List At) (w : World), St w0 X (pZ g z (some a) cc :: M) w → Calls Try.prog 15 #[.pointer (some ⟨g, 0, none⟩), .int .i64 i] w fun e w' => e = .returned (.tuple #[.agg #[.int .i64 0, .int .i64 0, .int .i64 0, .int .i64 0], .int .i64 3]) ∧ St w0 X (pZ g z (some a) cc :: M) w') := Lib.hid (fun M w hs => zone_no hs HO.out hzl)
  have CD : Hid (∀ (M1 M : List At) (w : World), St w0 X (M1 ++ pZ g z (some a) cc :: M) w → Calls Try.prog 17 #[.pointer (some ⟨g, 0, none⟩), .int .i64 i, .bool true] w fun e w' => e = .returned (iv 3) ∧ St w0 X (M1 ++ pZ g z (some a) cc :: M) w') := Lib.hid (fun M1 M w hs => (damage_no (hs.perm List.perm_middle) HO.out hzl true).mono (by rintro e w ⟨h1, h2⟩; exact ⟨h1, h2.perm List.perm_middle.symm⟩))
  have CMA : Hid (∀ (M1 M : List At) (w : World), St w0 X (M1 ++ pZ g z (some a) cc :: pL r (some a) cc z :: M) w → Calls Try.prog 18 #[.pointer (some ⟨g, 0, none⟩), .int .i64 i, .int .i64 4] w fun e w' => e = .returned (.agg (stv 2).toArray) ∧ ∃ a r c, St w0 X (M1 ++ pZ g z (some a) c :: pL r (some a) c z :: M) w') := Lib.hid (fun M1 M w hs => by
   have h := manage_M hs HO.out i 4
   have he : manageE z i 4 = (z, 2) := by unfold manageE; rw [if_pos (by rcases hzl with h | h; exact .inl h; exact .inr (.inl h))]
   rw [he] at h
   exact h)
  have CIS : Hid (∀ (a : Addr) (r : Option Nat) (cc : Nat) (M1 M : List At) (w : World), St w0 X (M1 ++ pZ g z (some a) cc :: pL r (some a) cc z :: .rd A (ocs z.l) :: M) w → Calls Try.prog 19 #[.pointer (some ⟨g, 0, none⟩), .agg ZI.toArray] w fun e w' => e = .returned (.bool true) ∧ St w0 X (M1 ++ pZ g z (some a) cc :: pL r (some a) cc z :: .rd A (ocs z.l) :: M) w') := Lib.hid (fun a r cc M1 M w hs => is_M hs HO.out HZ.out)
  have BP : Hid (∀ w : World, (Instr.build 37 #[]).run Try.prog w = .ok (.agg #[.int .i64 0, .int .i64 0, .int .i64 0, .int .i64 0]) w) := Lib.hid (fun w => by kernel_rfl)
  have ZO := Lib.hid (show ∀ v ∈ zz, v.oneCell' = true by simp [zz, Value.oneCell'])
  have ZZL := Lib.hid (show zz.length = 4 from rfl)
  have ARM := True.intro
  clear hzl
  by_cases h0 : i < 0
  ·have f2 : decide (i < 0) = true := by simpa using h0
   clear h0 hin
   go_upto_region 9 with (first | ((with_reducible refine Se.isL (o := ⟨some 9, _, _, _, _, _⟩) ?_); (refine Se.toL rfl (Se.al (o := ⟨some 9, _, _, _, _, _⟩) hs rfl (zZo) ?_); clear hs; rintro w g9 - hs)) | ((with_reducible refine Se.isL (o := ⟨none, Op.store 37 _ _, _, _, _, _⟩) ?_); (refine Se.toL rfl (Se.sow 0 hs rfl rfl rfl rfl ((by simp [Value.oneCell'])) ((by kernel_rfl)) (rfl) ?_); clear hs; intro w hs; try simp only [List.cons_append, List.nil_append, List.set_cons_zero] at hs)) | (go_at_call 10; refine Calls.mono (num_v hs 0) ?_; clear hs; rintro e w ⟨rfl, hs⟩) | (go_at_call 15; refine Calls.mono (CZ.out _ _ hs) ?_; clear hs; rintro e w ⟨rfl, hs⟩))
   go_wp2_with (first | ((with_reducible refine Se.isL (o := ⟨some 77, _, _, _, _, _⟩) ?_); (refine Se.toL rfl (Se.ldw (o := ⟨some 77, _, _, _, _, _⟩) hs rfl rfl ((Reads.blk 0 rfl)) ((by kernel_rfl)) (by kernel_rfl) ?_))) | ((with_reducible refine Se.isL (o := ⟨some 78, _, _, _, _, _⟩) ?_); (refine Se.toL rfl (Se.bd (o := ⟨some 78, _, _, _, _, _⟩) rfl rfl (BP.out _) ?_))) | ((with_reducible refine Se.isL (o := ⟨some 96, _, _, _, _, _⟩) ?_); (refine Se.toL rfl (Se.ldw (o := ⟨some 96, _, _, _, _, _⟩) hs rfl rfl ((Reads.blk 4 rfl)) ((by rw [ZLn.out]; kernel_rfl)) (by kernel_rfl) ?_))) | (go_at_call 10; refine Calls.mono (num_v hs 3) ?_; clear hs; rintro e w ⟨rfl, hs⟩) | (go_at_call 17; refine Calls.mono (CD.out [_] _ _ hs) ?_; clear hs; rintro e w ⟨rfl, hs⟩) | (go_at_call 18; refine Calls.mono (CMA.out [_] _ _ hs) ?_; clear hs; rintro e w ⟨rfl, a', r', c', hs⟩) | (go_at_call 11; refine Calls.mono (CC2.out _ _ hs) ?_; clear hs; rintro e w ⟨rfl, hs⟩) | (go_at_call 19; refine Calls.mono (CIS.out _ _ _ [_] _ _ hs) ?_; clear hs; rintro e w ⟨rfl, hs⟩) | (go_at_call 8; refine Calls.mono (works_st hs) ?_; clear hs; rintro e w ⟨rfl, hs⟩))
   go_ret
   exact ⟨rfl, hs.drop.drop.drop.drop.drop.drop⟩
  ·have f2 : decide (i < 0) = false := by simpa using h0
   have f3 : decide ((n : Int) ≤ i) = true := by simp; omega
   clear h0 hin
   go_upto_region 9 with (first | ((with_reducible refine Se.isL (o := ⟨some 9, _, _, _, _, _⟩) ?_); (refine Se.toL rfl (Se.al (o := ⟨some 9, _, _, _, _, _⟩) hs rfl (zZo) ?_); clear hs; rintro w g9 - hs)) | ((with_reducible refine Se.isL (o := ⟨none, Op.store 37 _ _, _, _, _, _⟩) ?_); (refine Se.toL rfl (Se.sow 0 hs rfl rfl rfl rfl ((by simp [Value.oneCell'])) ((by kernel_rfl)) (rfl) ?_); clear hs; intro w hs; try simp only [List.cons_append, List.nil_append, List.set_cons_zero] at hs)) | ((with_reducible refine Se.isL (o := ⟨some 70, _, _, _, _, _⟩) ?_); (refine Se.toL rfl (Se.ld (o := ⟨some 70, _, _, _, _, _⟩) hs rfl rfl (Cell.blk 5 rfl R0.out) (by kernel_rfl) ?_))) | (go_at_call 10; refine Calls.mono (num_v hs 0) ?_; clear hs; rintro e w ⟨rfl, hs⟩) | (go_at_call 15; refine Calls.mono (CZ.out _ _ hs) ?_; clear hs; rintro e w ⟨rfl, hs⟩))
   go_wp2_with (first | ((with_reducible refine Se.isL (o := ⟨some 77, _, _, _, _, _⟩) ?_); (refine Se.toL rfl (Se.ldw (o := ⟨some 77, _, _, _, _, _⟩) hs rfl rfl ((Reads.blk 0 rfl)) ((by kernel_rfl)) (by kernel_rfl) ?_))) | ((with_reducible refine Se.isL (o := ⟨some 78, _, _, _, _, _⟩) ?_); (refine Se.toL rfl (Se.bd (o := ⟨some 78, _, _, _, _, _⟩) rfl rfl (BP.out _) ?_))) | ((with_reducible refine Se.isL (o := ⟨some 96, _, _, _, _, _⟩) ?_); (refine Se.toL rfl (Se.ldw (o := ⟨some 96, _, _, _, _, _⟩) hs rfl rfl ((Reads.blk 4 rfl)) ((by rw [ZLn.out]; kernel_rfl)) (by kernel_rfl) ?_))) | (go_at_call 10; refine Calls.mono (num_v hs 3) ?_; clear hs; rintro e w ⟨rfl, hs⟩) | (go_at_call 17; refine Calls.mono (CD.out [_] _ _ hs) ?_; clear hs; rintro e w ⟨rfl, hs⟩) | (go_at_call 18; refine Calls.mono (CMA.out [_] _ _ hs) ?_; clear hs; rintro e w ⟨rfl, a', r', c', hs⟩) | (go_at_call 11; refine Calls.mono (CC2.out _ _ hs) ?_; clear hs; rintro e w ⟨rfl, hs⟩) | (go_at_call 19; refine Calls.mono (CIS.out _ _ _ [_] _ _ hs) ?_; clear hs; rintro e w ⟨rfl, hs⟩) | (go_at_call 8; refine Calls.mono (works_st hs) ?_; clear hs; rintro e w ⟨rfl, hs⟩))
   go_ret
   exact ⟨rfl, hs.drop.drop.drop.drop.drop.drop⟩
 ·obtain ⟨j, rfl⟩ : ∃ j : Nat, i = (j : Int) := ⟨i.toNat, by omega⟩
  have hj : j < z.l.length := by rw [HKL.out]; omega
  have f2 : decide ((j : Int) < 0) = false := by simp
  have f3 : decide ((n : Int) ≤ (j : Int)) = false := by simp; omega
  have f4 : decide (n ≤ j) = false := by simp; omega
  obtain ⟨Z, hZ⟩ : ∃ Z, Z = zcV z j := ⟨_, rfl⟩
  have ZVL := Lib.hid (show Z.length = 4 by rw [hZ]; rfl)
  have ZVO := Lib.hid (show ∀ v ∈ Z, v.oneCell' = true by rw [hZ]; simp [zcV, Value.oneCell'])
  have hx0 : ∀ w, (binOp .eql 37 (.agg Z.toArray) (.agg Z.toArray)).run Try.prog w = .ok (.bool true) w := fun w => by rw [hZ]; exact eqZ _ _ _ _ w
  have CZ : Hid (∀ (M : List At) (w : World), St w0 X (pZ g z (some a) cc :: pL r (some a) cc z :: M) w → Calls Try.prog 15 #[.pointer (some ⟨g, 0, none⟩), .int .i64 (j : Int)] w fun e w' => e = .returned (.tuple #[.agg Z.toArray, .int .i64 0]) ∧ St w0 X (pZ g z (some a) cc :: pL r (some a) cc z :: M) w') := Lib.hid (fun M w hs => by rw [hZ]; exact zone_st hs HO.out hj)
  have CRZ : Hid (∀ (M : List At) (w : World), St w0 X M w → At.rd A (ocs z.l) ∈ M → Calls Try.prog 20 #[.agg ZI.toArray, .int .i64 (j : Int)] w fun e w' => e = .returned (.agg Z.toArray) ∧ St w0 X M w') := Lib.hid (fun M w hs hm => by rw [hZ]; exact rzone_st hs hm HO.out HZ.out hj)
  have CIS : Hid (∀ (M1 M : List At) (w : World), St w0 X (M1 ++ pZ g z (some a) cc :: pL r (some a) cc z :: .rd A (ocs z.l) :: M) w → Calls Try.prog 19 #[.pointer (some ⟨g, 0, none⟩), .agg ZI.toArray] w fun e w' => e = .returned (.bool true) ∧ St w0 X (M1 ++ pZ g z (some a) cc :: pL r (some a) cc z :: .rd A (ocs z.l) :: M) w') := Lib.hid (fun M1 M w hs => is_M hs HO.out HZ.out)
  have CW := Lib.hid (fun (L : List At) (w : World) (hs : St w0 X L w) => works_st hs)
  have CM := Lib.hid (fun (L : List At) (w : World) (hs : St w0 X L w) => num_v hs 0)
  clear hin hZ hj
  go_upto_region 10 with (first | ((with_reducible refine Se.isL (o := ⟨some 9, _, _, _, _, _⟩) ?_); (refine Se.toL rfl (Se.al (o := ⟨some 9, _, _, _, _, _⟩) hs rfl (zZo) ?_); clear hs; rintro w g9 - hs)) | ((with_reducible refine Se.isL (o := ⟨none, Op.store 37 _ _, _, _, _, _⟩) ?_); (refine Se.toL rfl (Se.sow 0 hs rfl rfl rfl rfl (ZVO.out) ((by rw [ZVL.out]; kernel_rfl)) ((by rw [ZVL.out]; rfl)) ?_); clear hs; intro w hs; try simp only [List.cons_append, List.nil_append, List.set_cons_zero] at hs)) | ((with_reducible refine Se.isL (o := ⟨some 70, _, _, _, _, _⟩) ?_); (refine Se.toL rfl (Se.ld (o := ⟨some 70, _, _, _, _, _⟩) hs rfl rfl (Cell.blk 5 rfl R0.out) (by kernel_rfl) ?_))) | (go_at_call 10; refine Calls.mono (num_v hs 0) ?_; clear hs; rintro e w ⟨rfl, hs⟩) | (go_at_call 15; refine Calls.mono (CZ.out _ _ hs) ?_; clear hs; rintro e w ⟨rfl, hs⟩))
  refine Ch.region' 19 (fun wx => Blk wx g9 Z 37 ∧ Blk wx g7 ZI 43) (fun | 1 => true | 7 => true | 13 => true | 16 => true | _ => false) (by kernel_rfl) (by decide +kernel) (⟨hs.drew.hold (.blk g9 37 Z) (by simp), hs.drew.hold (.blk g7 43 ZI) (by simp)⟩) ?_
  replace hs := hs.drew
  generalize w.drew = w at hs ⊢
  change Ch.CW _ _ _ _ _ [0, 1, 2, 3, 4, 5, 6, 7, 8, 9, 10, 11, 12, 13, 14, 15, 16, 17, 18] _ _
  iterate 1 ((first | (refine Ch.pure (v := ?_) (by rfl) (by rfl) (by rfl) (fun wx hS => ?_) ?_; rotate_left; (focus (go_simp; (first | done | with_reducible rfl))))); (try simp only [Act.put, List.setIfInBounds_toArray, List.set_cons_zero, List.set_cons_succ]))
  refine Ch.noise (by rfl) (by rfl) (by rfl) ?_
  refine Se.gcall (f := 10) (args := #[.int .i64 0]) ?_ ?_
  ·go_simp
  refine Calls.mono (CM.out _ _ hs) ?_
  clear hs
  rintro e w ⟨rfl, hs⟩
  refine ⟨_, rfl, ⟨hs.hold (.blk g9 37 Z) (by simp), hs.hold (.blk g7 43 ZI) (by simp)⟩, ?_⟩
  (try simp only [Act.put, List.setIfInBounds_toArray, List.set_cons_zero, List.set_cons_succ])
  iterate 5 ((first | (refine Ch.pure (v := ?_) (by rfl) (by rfl) (by rfl) (fun wx hS => ?_) ?_; rotate_left; (focus (go_simp; (first | done | with_reducible rfl)))) | refine Ch.pure (v := _) (by rfl) (by rfl) (by rfl) (fun wx hS => Se.xla rfl rfl (Li.Rd.of_blk hS.1) (by rw [ZVL.out] <;> kernel_rfl) (by kernel_rfl)) ?_ | refine Ch.pure (v := _) (by rfl) (by rfl) (by rfl) (fun wx hS => Se.xla rfl rfl (Li.Rd.of_blk hS.2) (by rw [ZLn.out] <;> kernel_rfl) (by kernel_rfl)) ?_); (try simp only [Act.put, List.setIfInBounds_toArray, List.set_cons_zero, List.set_cons_succ]))
  refine Ch.noise (by rfl) (by rfl) (by rfl) ?_
  refine Se.gcall (f := 20) (args := #[.agg ZI.toArray, .int .i64 (j : Int)]) ?_ ?_
  ·go_simp
  refine Calls.mono (CRZ.out _ _ hs (by simp)) ?_
  clear hs
  rintro e w ⟨rfl, hs⟩
  refine ⟨_, rfl, ⟨hs.hold (.blk g9 37 Z) (by simp), hs.hold (.blk g7 43 ZI) (by simp)⟩, ?_⟩
  (try simp only [Act.put, List.setIfInBounds_toArray, List.set_cons_zero, List.set_cons_succ])
  iterate 5 ((first | (refine Ch.pure (v := ?_) (by rfl) (by rfl) (by rfl) (fun wx hS => ?_) ?_; rotate_left; (focus (go_simp; (first | done | with_reducible rfl)))) | refine Ch.pure (v := _) (by rfl) (by rfl) (by rfl) (fun wx hS => Se.xla rfl rfl (Li.Rd.of_blk hS.2) (by rw [ZLn.out] <;> kernel_rfl) (by kernel_rfl)) ?_); (try simp only [Act.put, List.setIfInBounds_toArray, List.set_cons_zero, List.set_cons_succ]))
  refine Ch.noise (by rfl) (by rfl) (by rfl) ?_
  refine Se.gcall (f := 19) (args := #[.pointer (some ⟨g, 0, none⟩), .agg ZI.toArray]) ?_ ?_
  ·go_simp
  refine Calls.mono (CIS.out [_] _ _ hs) ?_
  clear hs
  rintro e w ⟨rfl, hs⟩
  refine ⟨_, rfl, ⟨hs.hold (.blk g9 37 Z) (by simp), hs.hold (.blk g7 43 ZI) (by simp)⟩, ?_⟩
  (try simp only [Act.put, List.setIfInBounds_toArray, List.set_cons_zero, List.set_cons_succ])
  iterate 2 ((first | (refine Ch.pure (v := ?_) (by rfl) (by rfl) (by rfl) (fun wx hS => ?_) ?_; rotate_left; (focus (go_simp; (first | done | with_reducible rfl))))); (try simp only [Act.put, List.setIfInBounds_toArray, List.set_cons_zero, List.set_cons_succ]))
  refine Ch.noise (by rfl) (by rfl) (by rfl) ?_
  refine Se.gcall (f := 8) (args := #[]) ?_ ?_
  ·go_simp
  refine Calls.mono (CW.out _ _ hs) ?_
  clear hs
  rintro e w ⟨rfl, hs⟩
  refine ⟨_, rfl, ⟨hs.hold (.blk g9 37 Z) (by simp), hs.hold (.blk g7 43 ZI) (by simp)⟩, ?_⟩
  (try simp only [Act.put, List.setIfInBounds_toArray, List.set_cons_zero, List.set_cons_succ])
  iterate 2 ((first | (refine Ch.pure (v := ?_) (by rfl) (by rfl) (by rfl) (fun wx hS => ?_) ?_; rotate_left; (focus (go_simp; (first | done | with_reducible rfl))))); (try simp only [Act.put, List.setIfInBounds_toArray, List.set_cons_zero, List.set_cons_succ]))
  refine Ch.done ?_
  try simp only [List.drop_succ_cons, List.drop_zero]
  go_wp2_with fail
  go_ret
  exact ⟨rfl, hs.drop.drop.drop.drop.drop.drop⟩
theorem configs_any {W : World} (n sz cap mo ma i : Int) :
  Calls Try.prog 4 #[.agg #[.int .i64 n, .int .i64 sz, .int .i64 cap, .int .i64 mo, .int .i64 ma], .int .i64 i] W fun e w' => e = .returned (.bool true) ∧ Below W.heap.size W w' := by
 have hs : St W [] [] W := St.start W (fun a ha => by cases ha) rfl
 by_cases h : (60 < n ∧ n ≤ 4096) ∨ okC n sz cap mo ma = false
 ·exact (configs_no hs h).mono fun _ _ ⟨h1, h2⟩ => ⟨h1, h2.below⟩
 ·have hok2 : okC n sz cap mo ma = true := by
   cases hc : okC n sz cap mo ma with
   | true => rfl
   | false => exact absurd (.inr hc) h
  have h4 : n ≤ 4096 := by simp only [okC, decide_eq_true_eq] at hok2; omega
  obtain ⟨c, rfl, rfl, rfl, rfl, rfl⟩ := cf_of hok2
  exact (configs_yes hs hok2 (by omega) i).mono fun _ _ ⟨h1, h2⟩ => ⟨h1, h2.below⟩
end Zo
end Go.Proofs.Ythpgkkfahiglnaa


/- Layer 28's laws: is, made. No condition but Go's own limits. Printed by wip/gen_zonelaw3.py. -/
import Derived.Test.YthpgkkfahiglnaaZoneLaw2
import Derived.Test.YthpgkkfahiglnaaZoneOk
import Derived.Test.YthpgkkfahiglnaaZoneR6
set_option maxRecDepth 100000
set_option maxHeartbeats 4000000
set_option linter.unusedSimpArgs false
set_option linter.unusedVariables false
namespace Go.Proofs.Ythpgkkfahiglnaa
open Go Go.RowKit
namespace Zo
open Se (St At Reads Cell)
open Li (Rd Blk Fr)
variable {w0 w : World} {X : List Nat} {L : List At}
attribute [local irreducible] Calls
theorem perm2 {a b : At} {M L : List At} : (a :: b :: (M ++ L)).Perm (M ++ (a :: b :: L)) := List.perm_append_comm_assoc [a, b] M L
theorem eachOk2 {g cc : Nat} {z : Zs} {a : Addr} {r : Option Nat} (ho : OkZ z) {sl : List Int} {A : Option Addr} {n c : Nat} (hn : n = sl.length) (hr : Reads L A (ints sl)) (hle : n ≤ 1048576) (M M2 : List At) :
  EachOk w0 X (M2 ++ (M ++ pZ g z (some a) cc :: pL r (some a) cc z :: L)) (M2 ++ (M ++ pZ g z (some a) cc :: pL r (some a) cc z :: L)) (.pointer (some ⟨g, 0, none⟩)) A n c z (numsT (inS sl) z.l z.l.length) := by
 have h := each_st (w0 := w0) (X := X) (g := g) (cc := cc) (a := a) (r := r) (L := (M2 ++ M) ++ L) (c := c) ho hn (hr.app (M2 ++ M)) hle
 refine h.perm ?_
 rw [← List.append_assoc]
 exact perm2
theorem is_st {g cc : Nat} {z : Zs} {a : Addr} {r : Option Nat} {A : Option Addr} {ZI : List Value} (hs : St w0 X (pZ g z (some a) cc :: pL r (some a) cc z :: .rd A (ocs z.l) :: L) w) (ho : OkZ z) (hz : RZ z A ZI) :
  Calls Try.prog 19 #[.pointer (some ⟨g, 0, none⟩), .agg ZI.toArray] w fun e w' => e = .returned (.bool true) ∧ St w0 X (pZ g z (some a) cc :: pL r (some a) cc z :: .rd A (ocs z.l) :: L) w' := by
 have ZLn := Lib.hid hz.len
 obtain ⟨C, hC⟩ : ∃ C, C = cl z.c := ⟨_, rfl⟩
 have CLn := Lib.hid (show C.length = 5 by rw [hC]; rfl)
 have HCR : Hid (∀ (g3 : Nat) (w : World), Blk w g3 ZI 43 → Rd w (some ⟨g3, 0, none⟩) C) := Lib.hid (fun g3 w h => by
  have h2 := (Li.Rd.of_blk h).take 5
  obtain ⟨c, hc⟩ := hz
  rw [show ZI.take 5 = C by rw [hC, hc]; rfl] at h2
  exact h2)
 have HCE : ∀ w, (binOp .eql 24 (.agg C.toArray) (.agg C.toArray)).run Try.prog w = .ok (.bool true) w := fun w => by rw [hC]; exact eqC _ _ _ _ _ w
 obtain ⟨no, hno⟩ : ∃ n, n = cntO z.l := ⟨_, rfl⟩
 obtain ⟨na, hna⟩ : ∃ n, n = cntA z.l := ⟨_, rfl⟩
 have CC : Hid (∀ (g3 : Nat) (w : World), St w0 X (.blk g3 43 ZI :: pZ g z (some a) cc :: pL r (some a) cc z :: .rd A (ocs z.l) :: L) w → Calls Try.prog 46 #[.agg ZI.toArray] w fun e w' => e = .returned (.tuple #[iv no, iv na]) ∧ St w0 X (.blk g3 43 ZI :: pZ g z (some a) cc :: pL r (some a) cc z :: .rd A (ocs z.l) :: L) w') := Lib.hid (fun g3 w hs => by rw [hno, hna]; exact rcount' hs (by simp) ho hz)
 have CF : Hid (∀ (g3 : Nat) (w : World), St w0 X (.blk g3 43 ZI :: pZ g z (some a) cc :: pL r (some a) cc z :: .rd A (ocs z.l) :: L) w → Calls Try.prog 27 #[.pointer (some ⟨g, 0, none⟩)] w fun e w' => e = .returned (.agg C.toArray) ∧ St w0 X (.blk g3 43 ZI :: pZ g z (some a) cc :: pL r (some a) cc z :: .rd A (ocs z.l) :: L) w') := Lib.hid (fun g3 w hs => by
  rw [hC]
  exact (config_st hs.u11).mono (by rintro e w ⟨h1, h2⟩; exact ⟨h1, h2.u11⟩))
 have CO : Hid (∀ (g3 : Nat) (w : World), St w0 X (.blk g3 43 ZI :: pZ g z (some a) cc :: pL r (some a) cc z :: .rd A (ocs z.l) :: L) w → Calls Try.prog 30 #[.pointer (some ⟨g, 0, none⟩)] w fun e w' => e = .returned (iv no) ∧ St w0 X (.blk g3 43 ZI :: pZ g z (some a) cc :: pL r (some a) cc z :: .rd A (ocs z.l) :: L) w') := Lib.hid (fun g3 w hs => by
  rw [hno]
  exact (openN_st hs.u21 ho).mono (by rintro e w ⟨h1, h2⟩; exact ⟨h1, h2.u12⟩))
 have CA : Hid (∀ (g3 : Nat) (w : World), St w0 X (.blk g3 43 ZI :: pZ g z (some a) cc :: pL r (some a) cc z :: .rd A (ocs z.l) :: L) w → Calls Try.prog 31 #[.pointer (some ⟨g, 0, none⟩)] w fun e w' => e = .returned (iv na) ∧ St w0 X (.blk g3 43 ZI :: pZ g z (some a) cc :: pL r (some a) cc z :: .rd A (ocs z.l) :: L) w') := Lib.hid (fun g3 w hs => by
  rw [hna]
  exact (activeN_st hs.u21 ho).mono (by rintro e w ⟨h1, h2⟩; exact ⟨h1, h2.u12⟩))
 have CV : Hid (∀ (g3 : Nat) (w : World), St w0 X (.blk g3 43 ZI :: pZ g z (some a) cc :: pL r (some a) cc z :: .rd A (ocs z.l) :: L) w → Calls Try.prog 25 #[.pointer (some ⟨g, 0, none⟩), .agg ZI.toArray, .int .i64 9999, .slice none 0 0] w fun e w' => e = .returned (.bool true) ∧ St w0 X (.blk g3 43 ZI :: pZ g z (some a) cc :: pL r (some a) cc z :: .rd A (ocs z.l) :: L) w') := Lib.hid (fun g3 w hs =>
  over_gen (sl := []) hs (by simp) (by rw [ho.1]; exact ho.2.2.1) (fun _ => ho) hz rfl (Reads.nil) (by decide) (fun M2 => eachOk2 (sl := []) ho rfl (Reads.nil) (by decide) [.blk g3 43 ZI] M2) 9999)
 have e1 : ((no : Int) == (no : Int)) = true := by simp
 have e2 : ((na : Int) == (na : Int)) = true := by simp
 clear ho hz hC hno hna
 go_enter Try.func19, Try.ntmps19
 go_upto_region 2 with (first | ((with_reducible refine Se.isL (o := ⟨some 8, _, _, _, _, _⟩) ?_); (refine Se.toL rfl (Se.ldw (o := ⟨some 8, _, _, _, _, _⟩) hs rfl rfl ((Reads.blk 0 rfl)) ((by rw [ZLn.out]; kernel_rfl)) (by kernel_rfl) ?_))) | ((first | with_reducible refine Se.ab hs ?_ | with_reducible refine Se.abc hs ?_); clear hs; (first | (generalize w.heap.size = g3; intro w hs))) | (go_at_call 46; refine Calls.mono (CC.out _ _ hs) ?_; clear hs; rintro e w ⟨rfl, hs⟩))
 refine Ch.region' 23 (fun wx => Blk wx g3 ZI 43) (fun | 1 => true | 7 => true | 13 => true | 20 => true | _ => false) (by kernel_rfl) (by decide +kernel) (hs.drew.hold (.blk g3 43 ZI) (by simp)) ?_
 replace hs := hs.drew
 generalize w.drew = w at hs ⊢
 change Ch.CW _ _ _ _ _ [0, 1, 2, 3, 4, 5, 6, 7, 8, 9, 10, 11, 12, 13, 14, 15, 16, 17, 18, 19, 20, 21, 22] _ _
 iterate 1 ((first | (refine Ch.pure (v := ?_) (by rfl) (by rfl) (by rfl) (fun wx hS => ?_) ?_; rotate_left; (focus (go_simp; (first | done | with_reducible rfl))))); (try simp only [Act.put, List.setIfInBounds_toArray, List.set_cons_zero, List.set_cons_succ]))
 refine Ch.noise (by rfl) (by rfl) (by rfl) ?_
 refine Se.gcall (f := 27) (args := #[.pointer (some ⟨g, 0, none⟩)]) ?_ ?_
 ·go_simp
 refine Calls.mono (CF.out _ _ hs) ?_
 clear hs
 rintro e w ⟨rfl, hs⟩
 refine ⟨_, rfl, hs.hold (.blk g3 43 ZI) (by simp), ?_⟩
 (try simp only [Act.put, List.setIfInBounds_toArray, List.set_cons_zero, List.set_cons_succ])
 iterate 5 ((first | (refine Ch.pure (v := ?_) (by rfl) (by rfl) (by rfl) (fun wx hS => ?_) ?_; rotate_left; (focus (go_simp; (first | done | with_reducible rfl)))) | refine Ch.pure (v := _) (by rfl) (by rfl) (by rfl) (fun wx hS => Se.xla rfl rfl (HCR.out _ _ hS) (by rw [CLn.out] <;> kernel_rfl) (by kernel_rfl)) ?_); (try simp only [Act.put, List.setIfInBounds_toArray, List.set_cons_zero, List.set_cons_succ]))
 refine Ch.noise (by rfl) (by rfl) (by rfl) ?_
 refine Se.gcall (f := 30) (args := #[.pointer (some ⟨g, 0, none⟩)]) ?_ ?_
 ·go_simp
 refine Calls.mono (CO.out _ _ hs) ?_
 clear hs
 rintro e w ⟨rfl, hs⟩
 refine ⟨_, rfl, hs.hold (.blk g3 43 ZI) (by simp), ?_⟩
 (try simp only [Act.put, List.setIfInBounds_toArray, List.set_cons_zero, List.set_cons_succ])
 iterate 5 ((first | (refine Ch.pure (v := ?_) (by rfl) (by rfl) (by rfl) (fun wx hS => ?_) ?_; rotate_left; (focus (go_simp; (first | done | with_reducible rfl))))); (try simp only [Act.put, List.setIfInBounds_toArray, List.set_cons_zero, List.set_cons_succ]))
 refine Ch.noise (by rfl) (by rfl) (by rfl) ?_
 refine Se.gcall (f := 31) (args := #[.pointer (some ⟨g, 0, none⟩)]) ?_ ?_
 ·go_simp
 refine Calls.mono (CA.out _ _ hs) ?_
 clear hs
 rintro e w ⟨rfl, hs⟩
 refine ⟨_, rfl, hs.hold (.blk g3 43 ZI) (by simp), ?_⟩
 (try simp only [Act.put, List.setIfInBounds_toArray, List.set_cons_zero, List.set_cons_succ])
 iterate 6 ((first | (refine Ch.pure (v := ?_) (by rfl) (by rfl) (by rfl) (fun wx hS => ?_) ?_; rotate_left; (focus (go_simp; (first | done | with_reducible rfl)))) | refine Ch.pure (v := _) (by rfl) (by rfl) (by rfl) (fun wx hS => Se.xla rfl rfl (Li.Rd.of_blk hS) (by rw [ZLn.out] <;> kernel_rfl) (by kernel_rfl)) ?_); (try simp only [Act.put, List.setIfInBounds_toArray, List.set_cons_zero, List.set_cons_succ]))
 refine Ch.noise (by rfl) (by rfl) (by rfl) ?_
 refine Se.gcall (f := 25) (args := #[.pointer (some ⟨g, 0, none⟩), .agg ZI.toArray, .int .i64 9999, .slice none 0 0]) ?_ ?_
 ·go_simp
 refine Calls.mono (CV.out _ _ hs) ?_
 clear hs
 rintro e w ⟨rfl, hs⟩
 refine ⟨_, rfl, hs.hold (.blk g3 43 ZI) (by simp), ?_⟩
 (try simp only [Act.put, List.setIfInBounds_toArray, List.set_cons_zero, List.set_cons_succ])
 iterate 2 ((first | (refine Ch.pure (v := ?_) (by rfl) (by rfl) (by rfl) (fun wx hS => ?_) ?_; rotate_left; (focus (go_simp; (first | done | with_reducible rfl))))); (try simp only [Act.put, List.setIfInBounds_toArray, List.set_cons_zero, List.set_cons_succ]))
 refine Ch.done ?_
 try simp only [List.drop_succ_cons, List.drop_zero]
 go_wp2_with fail
 go_ret
 exact ⟨rfl, hs.drop⟩
theorem made_no (hs : St w0 X L w) {n sz cap mo ma : Int} (h : 60 < n ∨ okC n sz cap mo ma = false) :
  Calls Try.prog 21 #[.agg #[.int .i64 n, .int .i64 sz, .int .i64 cap, .int .i64 mo, .int .i64 ma]] w fun e w' => e = .returned (.tuple #[.pointer none, .agg (zcl { c := ⟨0, 0, 0, 0, 0⟩, l := [] } none 0).toArray, .bool false]) ∧ St w0 X L w' := by
 obtain ⟨C, hC⟩ : ∃ C, C = [Value.int .i64 n, .int .i64 sz, .int .i64 cap, .int .i64 mo, .int .i64 ma] := ⟨_, rfl⟩
 have R0 := Lib.hid (show C[0]? = some (.int .i64 n) by rw [hC]; rfl)
 have CLn := Lib.hid (show C.length = 5 by rw [hC]; rfl)
 have hC2 : #[Value.int .i64 n, .int .i64 sz, .int .i64 cap, .int .i64 mo, .int .i64 ma] = C.toArray := by rw [hC]
 obtain ⟨RZ0, hRZ0⟩ : ∃ R, R = zcl { c := ⟨0, 0, 0, 0, 0⟩, l := [] } none 0 := ⟨_, rfl⟩
 have ZL0 := Lib.hid (show RZ0.length = 7 by rw [hRZ0]; rfl)
 have ZO := Lib.hid (show ∀ v ∈ RZ0, v.oneCell' = true by rw [hRZ0]; exact zcl_one _ _ _)
 have zRz' := Lib.hid zRz
 have BZ : Hid (∀ w : World, (Instr.build 43 #[]).run Try.prog w = .ok (.agg RZ0.toArray) w) := Lib.hid (fun w => by rw [hRZ0]; kernel_rfl)
 rw [hC2, ← hRZ0]
 rw [← hRZ0] at zRz'
 by_cases h1 : 60 < n
 ·have f1 : decide (60 < n) = true := by simpa using h1
  clear h h1 hC hC2 hRZ0
  go_enter Try.func21, Try.ntmps21
  go_wp2_with (first | ((with_reducible refine Se.isL (o := ⟨some 3, _, _, _, _, _⟩) ?_); (refine Se.toL rfl (Se.al (o := ⟨some 3, _, _, _, _, _⟩) hs rfl (zRz'.out) ?_); clear hs; rintro w g3 - hs)) | ((with_reducible refine Se.isL (o := ⟨some 10, _, _, _, _, _⟩) ?_); (refine Se.toL rfl (Se.ld (o := ⟨some 10, _, _, _, _, _⟩) hs rfl rfl (Cell.blk 1 rfl R0.out) (by kernel_rfl) ?_))) | ((with_reducible refine Se.isL (o := ⟨some 12, _, _, _, _, _⟩) ?_); (refine Se.toL rfl (Se.bd (o := ⟨some 12, _, _, _, _, _⟩) rfl rfl (BZ.out _) ?_))) | ((with_reducible refine Se.isL (o := ⟨none, _, _, _, _, _⟩) ?_); (refine Se.toL rfl (Se.sow 0 hs rfl rfl rfl rfl (ZO.out) ((by rw [ZL0.out]; kernel_rfl)) (rfl) ?_); clear hs; intro w hs; try simp only [List.cons_append, List.nil_append, List.set_cons_zero] at hs)) | ((first | with_reducible refine Se.ab hs ?_ | with_reducible refine Se.abc hs ?_); clear hs; (first | (generalize w.heap.size = g1; intro w hs))))
  refine Se.ret hs [.pointer none, .agg RZ0.toArray, .bool false] rfl ⟨rfl, Se.resRow rfl (Reads.blk 0 rfl) (by kernel_rfl) (by rw [ZL0.out] <;> kernel_rfl), rfl, trivial⟩ (by simp) rfl ?_
  exact ⟨rfl, hs.drop.drop⟩
 have f1 : decide (60 < n) = false := by simpa using h1
 have hno : okC n sz cap mo ma = false := by rcases h with h | h; exact absurd h h1; exact h
 have CN : Hid (∀ (L : List At) (w : World), St w0 X L w → Calls Try.prog 9 #[.agg C.toArray] w fun e w' => e = .returned (.tuple #[.pointer none, iv 2]) ∧ St w0 X L w') := Lib.hid (fun L w hs => by rw [← hC2]; exact new_no hs hno)
 have CR : Hid (∀ (L : List At) (w : World), St w0 X L w → Calls Try.prog 16 #[.agg C.toArray] w fun e w' => e = .returned (.tuple #[.agg RZ0.toArray, iv 2]) ∧ St w0 X L w') := Lib.hid (fun L w hs => by rw [← hC2, hRZ0]; exact rnew_no hs hno)
 have CM := Lib.hid (fun (L : List At) (w : World) (hs : St w0 X L w) => num_v hs 2)
 clear h h1 hno hC hC2 hRZ0
 go_enter Try.func21, Try.ntmps21
 go_upto_region 5 with (first | ((with_reducible refine Se.isL (o := ⟨some 3, _, _, _, _, _⟩) ?_); (refine Se.toL rfl (Se.al (o := ⟨some 3, _, _, _, _, _⟩) hs rfl (zRz'.out) ?_); clear hs; rintro w g3 - hs)) | ((with_reducible refine Se.isL (o := ⟨some 10, _, _, _, _, _⟩) ?_); (refine Se.toL rfl (Se.ld (o := ⟨some 10, _, _, _, _, _⟩) hs rfl rfl (Cell.blk 1 rfl R0.out) (by kernel_rfl) ?_))) | ((with_reducible refine Se.isL (o := ⟨some 14, _, _, _, _, _⟩) ?_); (refine Se.toL rfl (Se.ldw (o := ⟨some 14, _, _, _, _, _⟩) hs rfl rfl ((Reads.blk 1 rfl)) ((by rw [CLn.out]; kernel_rfl)) (by kernel_rfl) ?_))) | ((with_reducible refine Se.isL (o := ⟨some 19, _, _, _, _, _⟩) ?_); (refine Se.toL rfl (Se.ldw (o := ⟨some 19, _, _, _, _, _⟩) hs rfl rfl ((Reads.blk 1 rfl)) ((by rw [CLn.out]; kernel_rfl)) (by kernel_rfl) ?_))) | ((with_reducible refine Se.isL (o := ⟨some 7, _, _, _, _, _⟩) ?_); (refine Se.toL rfl (Se.al (o := ⟨some 7, _, _, _, _, _⟩) hs rfl (zRz'.out) ?_); clear hs; rintro w g7 - hs)) | ((with_reducible refine Se.isL (o := ⟨none, _, _, _, _, _⟩) ?_); (refine Se.toL rfl (Se.sow 0 hs rfl rfl rfl rfl (ZO.out) ((by rw [ZL0.out]; kernel_rfl)) (rfl) ?_); clear hs; intro w hs; try simp only [List.cons_append, List.nil_append, List.set_cons_zero] at hs)) | ((first | with_reducible refine Se.ab hs ?_ | with_reducible refine Se.abc hs ?_); clear hs; (first | (generalize w.heap.size = g1; intro w hs))) | (go_at_call 9; refine Calls.mono (CN.out _ _ hs) ?_; clear hs; rintro e w ⟨rfl, hs⟩) | (go_at_call 16; refine Calls.mono (CR.out _ _ hs) ?_; clear hs; rintro e w ⟨rfl, hs⟩))
 clear CN CR
 refine Ch.region' 20 (fun wx => Blk wx g7 RZ0 43) (fun | 3 => true | 18 => true | _ => false) (by kernel_rfl) (by decide +kernel) (hs.drew.hold (.blk g7 43 RZ0) (by simp)) ?_
 replace hs := hs.drew
 generalize w.drew = w at hs ⊢
 change Ch.CW _ _ _ _ _ [0, 1, 2, 3, 4, 5, 6, 7, 8, 9, 10, 11, 12, 13, 14, 15, 16, 17, 18, 19] _ _
 iterate 3 ((first | (refine Ch.pure (v := ?_) (by rfl) (by rfl) (by rfl) (fun wx hS => ?_) ?_; rotate_left; (focus (go_simp; (first | done | with_reducible rfl)))) | refine Ch.pure (v := _) (by rfl) (by rfl) (by rfl) (fun wx hS => Se.xla rfl rfl (Li.Rd.of_blk hS) (by rw [ZL0.out] <;> kernel_rfl) (by kernel_rfl)) ?_); (try simp only [Act.put, List.setIfInBounds_toArray, List.set_cons_zero, List.set_cons_succ]))
 refine Ch.noise (by rfl) (by rfl) (by rfl) ?_
 refine Se.gcall (f := 10) (args := #[.int .i64 2]) ?_ ?_
 ·go_simp
 refine Calls.mono (CM.out _ _ hs) ?_
 clear hs
 rintro e w ⟨rfl, hs⟩
 refine ⟨_, rfl, hs.hold (.blk g7 43 RZ0) (by simp), ?_⟩
 (try simp only [Act.put, List.setIfInBounds_toArray, List.set_cons_zero, List.set_cons_succ])
 iterate 14 ((first | (refine Ch.pure (v := ?_) (by rfl) (by rfl) (by rfl) (fun wx hS => ?_) ?_; rotate_left; (focus (go_simp; (first | done | with_reducible rfl))))); (try simp only [Act.put, List.setIfInBounds_toArray, List.set_cons_zero, List.set_cons_succ]))
 refine Ch.noise (by rfl) (by rfl) (by rfl) (Se.sow 1 hs rfl rfl rfl rfl ZO.out (by rw [ZL0.out]; kernel_rfl) rfl ?_)
 clear hs
 intro w hs
 simp only [List.cons_append, List.nil_append, List.set_cons_zero, List.set_cons_succ] at hs
 refine ⟨hs.hold (.blk g7 43 RZ0) (by simp), ?_⟩
 (try simp only [Act.put, List.setIfInBounds_toArray, List.set_cons_zero, List.set_cons_succ])
 iterate 1 ((first | (refine Ch.pure (v := ?_) (by rfl) (by rfl) (by rfl) (fun wx hS => ?_) ?_; rotate_left; (focus (go_simp; (first | done | with_reducible rfl))))); (try simp only [Act.put, List.setIfInBounds_toArray, List.set_cons_zero, List.set_cons_succ]))
 refine Ch.done ?_
 try simp only [List.drop_succ_cons, List.drop_zero]
 go_wp2_with fail
 refine Se.ret hs [.pointer none, .agg RZ0.toArray, .bool false] rfl ⟨rfl, Se.resRow rfl (Reads.blk 1 rfl) (by kernel_rfl) (by rw [ZL0.out] <;> kernel_rfl), rfl, trivial⟩ (by simp) rfl ?_
 exact ⟨rfl, hs.drop.drop.drop⟩
theorem made_yes (hs : St w0 X L w) {c : Cf} (h : okC c.n c.sz c.cap c.mo c.ma = true) (h60 : c.n ≤ 60) :
  Calls Try.prog 21 #[.agg #[iv c.n, iv c.sz, iv c.cap, iv c.mo, iv c.ma]] w fun e w' => ∃ g a r cc A ZI, e = .returned (.tuple #[.pointer (some ⟨g, 0, none⟩), .agg ZI.toArray, .bool true]) ∧ RZ (newZ c) A ZI ∧ St w0 X (pZ g (newZ c) (some a) cc :: pL r (some a) cc (newZ c) :: .rd A (ocs (newZ c).l) :: L) w' := by
 obtain ⟨C, hC⟩ : ∃ C, C = cl c := ⟨_, rfl⟩
 obtain ⟨n, hn⟩ : ∃ n, n = c.n := ⟨_, rfl⟩
 have R0 := Lib.hid (show C[0]? = some (iv n) by rw [hC, hn]; rfl)
 have CLn := Lib.hid (show C.length = 5 by rw [hC]; rfl)
 have hC2 : #[iv c.n, iv c.sz, iv c.cap, iv c.mo, iv c.ma] = C.toArray := by rw [hC]; rfl
 obtain ⟨RZ0, hRZ0⟩ : ∃ R, R = zcl { c := ⟨0, 0, 0, 0, 0⟩, l := [] } none 0 := ⟨_, rfl⟩
 have ZL0 := Lib.hid (show RZ0.length = 7 by rw [hRZ0]; rfl)
 have zRz' := Lib.hid zRz
 rw [← hRZ0] at zRz'
 have f1 : decide (60 < (n : Int)) = false := by simp; omega
 have CN : Hid (∀ (L : List At) (w : World), St w0 X L w → Calls Try.prog 9 #[.agg C.toArray] w fun e w' => ∃ g a r, e = .returned (.tuple #[.pointer (some ⟨g, 0, none⟩), iv 0]) ∧ St w0 X (pZ g (newZ c) (some a) c.n :: pL r (some a) c.n (newZ c) :: L) w') := Lib.hid (fun L w hs => by rw [← hC2]; exact new_yes hs h)
 have CR : Hid (∀ (L : List At) (w : World), St w0 X L w → Calls Try.prog 16 #[.agg C.toArray] w fun e w' => ∃ A ZL, e = .returned (.tuple #[.agg ZL.toArray, iv 0]) ∧ RZ (newZ c) A ZL ∧ St w0 X (.rd A (ocs (newZ c).l) :: L) w') := Lib.hid (fun L w hs => by
  rw [← hC2]
  refine (rnew_yes hs h).mono ?_
  rintro e w ⟨-, A, ZL, h1, h2, h3⟩
  exact ⟨A, ZL, h1, h2, h3⟩)
 have CM := Lib.hid (fun (L : List At) (w : World) (hs : St w0 X L w) => num_v hs 0)
 rw [hC2]
 clear h h60 hC hC2 hRZ0 hn
 go_enter Try.func21, Try.ntmps21
 go_upto_region 4 with (first | ((with_reducible refine Se.isL (o := ⟨some 3, _, _, _, _, _⟩) ?_); (refine Se.toL rfl (Se.al (o := ⟨some 3, _, _, _, _, _⟩) hs rfl (zRz'.out) ?_); clear hs; rintro w g3 - hs)) | ((with_reducible refine Se.isL (o := ⟨some 10, _, _, _, _, _⟩) ?_); (refine Se.toL rfl (Se.ld (o := ⟨some 10, _, _, _, _, _⟩) hs rfl rfl (Cell.blk 1 rfl R0.out) (by kernel_rfl) ?_))) | ((with_reducible refine Se.isL (o := ⟨some 14, _, _, _, _, _⟩) ?_); (refine Se.toL rfl (Se.ldw (o := ⟨some 14, _, _, _, _, _⟩) hs rfl rfl ((Reads.blk 1 rfl)) ((by rw [CLn.out]; kernel_rfl)) (by kernel_rfl) ?_))) | ((first | with_reducible refine Se.ab hs ?_ | with_reducible refine Se.abc hs ?_); clear hs; (first | (generalize w.heap.size = g1; intro w hs))) | (go_at_call 9; refine Calls.mono (CN.out _ _ hs) ?_; clear hs; rintro e w ⟨g, a, r, rfl, hs⟩))
 go_upto_region 5 with (first | ((with_reducible refine Se.isL (o := ⟨some 19, _, _, _, _, _⟩) ?_); (refine Se.toL rfl (Se.ldw (o := ⟨some 19, _, _, _, _, _⟩) hs rfl rfl ((Reads.blk 3 rfl)) ((by rw [CLn.out]; kernel_rfl)) (by kernel_rfl) ?_))) | ((with_reducible refine Se.isL (o := ⟨some 7, _, _, _, _, _⟩) ?_); (refine Se.toL rfl (Se.al (o := ⟨some 7, _, _, _, _, _⟩) hs rfl (zRz'.out) ?_); clear hs; rintro w g7 - hs)) | ((with_reducible refine Se.isL (o := ⟨none, _, _, _, _, _⟩) ?_); (refine Se.toL rfl (Se.sow 0 hs rfl rfl rfl rfl (hz.one) ((by rw [hz.len]; kernel_rfl)) ((by rw [hz.len, ZL0.out])) ?_); clear hs; intro w hs; try simp only [List.cons_append, List.nil_append, List.set_cons_zero] at hs)) | (go_at_call 16; refine Calls.mono (CR.out _ _ hs) ?_; clear hs; rintro e w ⟨A, ZI, rfl, hz, hs⟩))
 have ZLn := Lib.hid hz.len
 have ZOn := Lib.hid hz.one
 have HZ := Lib.hid hz
 clear CN CR hz f1
 refine Ch.region' 20 (fun wx => Blk wx g7 ZI 43) (fun | 3 => true | 18 => true | _ => false) (by kernel_rfl) (by decide +kernel) (hs.drew.hold (.blk g7 43 ZI) (by simp)) ?_
 replace hs := hs.drew
 generalize w.drew = w at hs ⊢
 change Ch.CW _ _ _ _ _ [0, 1, 2, 3, 4, 5, 6, 7, 8, 9, 10, 11, 12, 13, 14, 15, 16, 17, 18, 19] _ _
 iterate 3 ((first | (refine Ch.pure (v := ?_) (by rfl) (by rfl) (by rfl) (fun wx hS => ?_) ?_; rotate_left; (focus (go_simp; (first | done | with_reducible rfl)))) | refine Ch.pure (v := _) (by rfl) (by rfl) (by rfl) (fun wx hS => Se.xla rfl rfl (Li.Rd.of_blk hS) (by rw [ZLn.out] <;> kernel_rfl) (by kernel_rfl)) ?_); (try simp only [Act.put, List.setIfInBounds_toArray, List.set_cons_zero, List.set_cons_succ]))
 refine Ch.noise (by rfl) (by rfl) (by rfl) ?_
 refine Se.gcall (f := 10) (args := #[.int .i64 0]) ?_ ?_
 ·go_simp
 refine Calls.mono (CM.out _ _ hs) ?_
 clear hs
 rintro e w ⟨rfl, hs⟩
 refine ⟨_, rfl, hs.hold (.blk g7 43 ZI) (by simp), ?_⟩
 (try simp only [Act.put, List.setIfInBounds_toArray, List.set_cons_zero, List.set_cons_succ])
 iterate 14 ((first | (refine Ch.pure (v := ?_) (by rfl) (by rfl) (by rfl) (fun wx hS => ?_) ?_; rotate_left; (focus (go_simp; (first | done | with_reducible rfl))))); (try simp only [Act.put, List.setIfInBounds_toArray, List.set_cons_zero, List.set_cons_succ]))
 refine Ch.noise (by rfl) (by rfl) (by rfl) (Se.sow 4 hs rfl rfl rfl rfl ZOn.out (by rw [ZLn.out]; kernel_rfl) (by rw [ZLn.out, ZL0.out]) ?_)
 clear hs
 intro w hs
 simp only [List.cons_append, List.nil_append, List.set_cons_zero, List.set_cons_succ] at hs
 refine ⟨hs.hold (.blk g7 43 ZI) (by simp), ?_⟩
 (try simp only [Act.put, List.setIfInBounds_toArray, List.set_cons_zero, List.set_cons_succ])
 iterate 1 ((first | (refine Ch.pure (v := ?_) (by rfl) (by rfl) (by rfl) (fun wx hS => ?_) ?_; rotate_left; (focus (go_simp; (first | done | with_reducible rfl))))); (try simp only [Act.put, List.setIfInBounds_toArray, List.set_cons_zero, List.set_cons_succ]))
 refine Ch.done ?_
 try simp only [List.drop_succ_cons, List.drop_zero]
 go_wp2_with fail
 refine Se.ret hs [.pointer (some ⟨g, 0, none⟩), .agg ZI.toArray, .bool true] rfl ⟨rfl, Se.resRow rfl (Reads.blk 4 rfl) (by kernel_rfl) (by rw [ZLn.out] <;> kernel_rfl), rfl, trivial⟩ (by simp) rfl ?_
 refine ⟨g, a, r, c.n, A, ZI, rfl, HZ.out, ?_⟩
 replace hs := hs.drop
 replace hs := hs.pull 4 rfl
 replace hs := hs.pull 4 rfl
 replace hs := hs.pull 2 rfl
 replace hs := hs.pull 4 rfl
 replace hs := hs.pull 4 rfl
 simp only [List.eraseIdx_cons_succ, List.eraseIdx_cons_zero] at hs
 exact hs.sub (List.Sublist.cons_cons _ (List.Sublist.cons_cons _ (List.Sublist.cons_cons _ (.cons _ (.cons _ (List.Sublist.refl _))))))
end Zo
end Go.Proofs.Ythpgkkfahiglnaa


/- Layer 36: the chapter's examples. No condition. -/
import Derived.Test.YtdngfcmakjlamaaStrCalls
set_option linter.unusedSimpArgs false
set_option linter.unusedVariables false
namespace Go.Proofs.Ytdngfcmakjlamaa
open Go Go.RowKit
namespace Sr
open Pd (Fm PDU meas dec framed pc iv fl fv encE)
open Se (St At Reads Cell)
open Li (v8 v8_one Rd Blk Fr)
open Bv (n8 n16 n32 n64)
variable {w0 w : World} {X : List Nat} {L : List At} {s s' : Rc} {g c : Nat} {B : Option Addr} {r : Option Nat}
attribute [local irreducible] Calls
def kf : Fm := ⟨false, false, 0⟩
def kf32 : Fm := ⟨false, false, 32⟩
def rdy : PDU := { h := { k := 9#8, id := 1#16, tg := 2#16, ln := 512#32 } }
def kbs : List (BitVec 8) := [9#8, 0#8, 24#8, 0#8, 24#8, 0#8, 0#8, 0#8, 1#8, 0#8, 2#8, 0#8, 0#8, 0#8, 0#8, 0#8, 0#8, 2#8, 0#8, 0#8, 0#8, 0#8, 0#8, 0#8]
def kbad : List (BitVec 8) := [8#8, 0#8, 0#8, 0#8, 0#8, 0#8, 0#8, 0#8]
def ks0 : Rc := { f := kf, mo := 1000 }
def ks1 : Rc := { f := kf, mo := 1000, b := kbs.take 23 }
def ks2 : Rc := { f := kf, mo := 1000, b := kbs }
def ks3 : Rc := { f := kf, mo := 1000, nb := 24, np := 1 }
def ks4 : Rc := { f := kf, mo := 1000, b := kbad, nb := 24, np := 1 }
def ks5 : Rc := { f := kf, mo := 1000, e := 360, nb := 24, np := 1 }
theorem kn_join : joinE kf [] [rdy] = (kbs, 0) := by decide +kernel
theorem kn_a0 : addE ks0 (kbs.take 23) = (ks1, 0) := by kernel_rfl
theorem kn_n1 : nextE ks1 = (ks1, {}, 9) := by kernel_rfl
theorem kn_a1 : addE ks1 (kbs.drop 23) = (ks2, 0) := by kernel_rfl
theorem kn_n2 : nextE ks2 = (ks3, rdy, 0) := by kernel_rfl
theorem kn_n3 : nextE ks3 = (ks3, {}, 9) := by kernel_rfl
theorem kn_a3 : addE ks3 kbad = (ks4, 0) := by kernel_rfl
theorem kn_n4 : nextE ks4 = (ks5, {}, 360) := by kernel_rfl
theorem kn_a5 : addE ks5 [] = (ks5, 360) := by kernel_rfl
theorem bkf (w : World) : (Instr.build 23 #[]).run Try.prog w = .ok (.agg (fl kf).toArray) w := by kernel_rfl
theorem bkf32 (w : World) : (Instr.build 23 #[(2, .int .i64 32)]).run Try.prog w = .ok (.agg (fl kf32).toArray) w := by kernel_rfl
theorem brdy (w : World) : (Instr.build 41 #[(0, .int .u8 9), (4, .int .u16 1), (5, .int .u16 2), (7, .int .u32 512)]).run Try.prog w = .ok (.agg (pc rdy.h none 0 0 none 0 0).toArray) w := by kernel_rfl
theorem run_results_row {P : Program} (hs : St w0 X L w) {fn : Func} {tmps : Array Value} {p : Tmp} {ty : TypeId} {g : Nat} {xs : List Value} (hr : fn.results = #[.cell p ty]) (hp : tmps.getD p undef = .pointer (some ⟨g, 0, none⟩)) (hR : Reads L (some ⟨g, 0, none⟩) xs) (hd : (P.underlying ty).map TypeDesc.isRow = some true) (hi : (P.info? ty).map (·.size) = some xs.length) : (results fn tmps).run P w = .ok (.agg xs.toArray) w := by
 have h2 := Se.run_loadVar_reads hs hR hd hi
 have hp' : tmps[p]?.getD undef = .pointer (some ⟨g, 0, none⟩) := by simpa using hp
 simp [results, hr, hp', asAddr, h2]
set_option maxRecDepth 100000 in
set_option maxHeartbeats 4000000 in
theorem ready_law (hs : St w0 X L w) : Calls Try.prog 28 #[] w fun e w' => e = .returned (.agg (pc rdy.h none 0 0 none 0 0).toArray) ∧ St w0 X L w' := by
 obtain ⟨P1, hP1⟩ : ∃ P, P = pc rdy.h none 0 0 none 0 0 := ⟨_, rfl⟩
 have B1 : Hid (∀ w : World, (Instr.build 41 #[(0, .int .u8 9), (4, .int .u16 1), (5, .int .u16 2), (7, .int .u32 512)]).run Try.prog w = .ok (.agg P1.toArray) w) := Lib.hid (by rw [hP1]; exact brdy)
 have PL := Lib.hid (pcl P1 hP1).1
 have PO := Lib.hid (pcl P1 hP1).2
 have HZ := Lib.hid zP0
 rw [← hP1]
 clear hP1
 go_enter Try.func28, Try.ntmps28
 go_wp2_with (first | ((with_reducible refine Se.isL (o := ⟨some 0, _, _, _, _, _⟩) ?_); (refine Se.toL rfl (Se.al (o := ⟨some 0, _, _, _, _, _⟩) hs rfl (HZ.out) ?_); clear hs; rintro w g0 - hs)) | ((with_reducible refine Se.isL (o := ⟨some 1, _, _, _, _, _⟩) ?_); (refine Se.toL rfl (Se.bd (o := ⟨some 1, _, _, _, _, _⟩) rfl rfl (B1.out _) ?_))) | ((with_reducible refine Se.isL (o := ⟨none, _, _, _, _, _⟩) ?_); (refine Se.toL rfl (Se.sow 0 hs rfl rfl rfl rfl (PO.out) ((by rw [PL.out]; kernel_rfl)) ((by rw [PL.out]; rfl)) ?_); clear hs; intro w hs; try simp only [List.cons_append, List.nil_append, List.set_cons_zero] at hs)))
 refine bodyPost_ret (v := .agg P1.toArray) ?_ rfl ?_
 ·exact run_results_row hs rfl rfl (Reads.blk 0 rfl) (by kernel_rfl) (by rw [PL.out] <;> kernel_rfl)
 exact ⟨rfl, hs.drop⟩
set_option maxRecDepth 100000 in
set_option maxRecDepth 100000 in
set_option maxHeartbeats 4000000 in
theorem known_st (hs : St w0 X L w) : Calls Try.prog 9 #[] w fun e' w' => e' = .returned (.bool true) ∧ St w0 X L w' := by
 obtain ⟨P1, hP1⟩ : ∃ P, P = pc rdy.h none 0 0 none 0 0 := ⟨_, rfl⟩
 obtain ⟨F0, hF0⟩ : ∃ F, F = fl kf := ⟨_, rfl⟩
 obtain ⟨F2, hF2⟩ : ∃ F, F = fl kf32 := ⟨_, rfl⟩
 obtain ⟨KB, hKB⟩ : ∃ b, b = kbs := ⟨_, rfl⟩
 have BF0 : Hid (∀ w : World, (Instr.build 23 #[]).run Try.prog w = .ok (.agg F0.toArray) w) := Lib.hid (by rw [hF0]; exact bkf)
 have BF2 : Hid (∀ w : World, (Instr.build 23 #[(2, .int .i64 32)]).run Try.prog w = .ok (.agg F2.toArray) w) := Lib.hid (by rw [hF2]; exact bkf32)
 have PL := Lib.hid (pcl P1 hP1).1
 have PO := Lib.hid (pcl P1 hP1).2
 have HZ := Lib.hid zP0
 have CN0 : Hid (∀ (w : World), St w0 X L w → Calls Try.prog 10 #[.agg F0.toArray, .int .i64 1000] w fun e w' => ∃ g, e = .returned (.tuple #[.pointer (some ⟨g, 0, none⟩), iv 0]) ∧ St w0 X (pR g ks0 none 0 :: pO none none 0 ks0 :: L) w') := Lib.hid (fun w hs => by rw [hF0, ← Pd.fv_eq]; exact new_yes hs kf 1000 (by decide))
 have CN1 : Hid (∀ (M : List At) (w : World), St w0 X M w → Calls Try.prog 10 #[.agg F0.toArray, .int .i64 127] w fun e w' => e = .returned (.tuple #[.pointer none, iv 2]) ∧ St w0 X M w') := Lib.hid (fun M w hs => by rw [hF0, ← Pd.fv_eq]; exact new_no hs kf 127 (by decide))
 have CN2 : Hid (∀ (M : List At) (w : World), St w0 X M w → Calls Try.prog 10 #[.agg F2.toArray, .int .i64 1000] w fun e w' => e = .returned (.tuple #[.pointer none, iv 2]) ∧ St w0 X M w') := Lib.hid (fun M w hs => by rw [hF2, ← Pd.fv_eq]; exact new_no hs kf32 1000 (by decide))
 have CR : Hid (∀ (M : List At) (w : World), St w0 X M w → Calls Try.prog 28 #[] w fun e w' => e = .returned (.agg P1.toArray) ∧ St w0 X M w') := Lib.hid (fun M w hs => by rw [hP1]; exact ready_law hs)
 have CJ : Hid (∀ (M : List At) (w : World) (g : Nat), St w0 X M w → Reads M (some ⟨g, 0, none⟩) P1 → Calls Try.prog 16 #[.agg F0.toArray, .slice (some ⟨g, 0, none⟩) 1 1] w fun e' w' => ∃ r B c, e' = .returned (.tuple #[.slice B 24 c, iv 0]) ∧ 24 ≤ c ∧ St w0 X (.own 1 r B 24 c (KB.map v8) :: M) w') := Lib.hid (fun M w g hs hr => by
  rw [hF0, ← Pd.fv_eq, hKB]
  refine join_st hs kf (R := [P1]) (ps := [rdy]) rfl (by simpa using hr) ?_ (by simp [rdy]) (by decide) kn_join rfl
  rw [hP1]
  exact PP.nil.snoc (p := rdy) Reads.nil Reads.nil)
 have CS : Hid (∀ (M : List At) (w : World) (EA DA : Option Addr) (ec dc : Nat) (PC : List Value), Hid (PC = pc rdy.h EA rdy.en.length ec DA rdy.da.length dc) → St w0 X M w → Calls Try.prog 26 #[.agg PC.toArray, .agg P1.toArray] w fun e w' => e = .returned (.bool true) ∧ St w0 X M w') := Lib.hid (fun M w EA DA ec dc PC hPC hs => by
  rw [hPC.out, hP1]
  exact Pd.rSame_st hs rdy.h rdy.h (es := []) (fs := []) (da := []) (db := []) rfl rfl rfl rfl Reads.nil Reads.nil Reads.nil Reads.nil (by decide))
 have KL : Hid (KB.take 23 = kbs.take 23 ∧ KB.drop 23 = kbs.drop 23 ∧ KB.length = 24) := Lib.hid (by rw [hKB]; exact ⟨rfl, rfl, rfl⟩)
 have KX : Hid (kbad.map v8 = [.int .u8 8, .int .u8 0, .int .u8 0, .int .u8 0, .int .u8 0, .int .u8 0, .int .u8 0, .int .u8 0]) := Lib.hid rfl
 clear hP1 hF0 hF2 hKB
 go_enter Try.func9, Try.ntmps9
 go_upto_region 4 with (first | ((with_reducible refine Se.isL (o := ⟨some 23, _, _, _, _, _⟩) ?_); (refine Se.toL rfl (Se.bd (o := ⟨some 23, _, _, _, _, _⟩) rfl rfl (BF0.out _) ?_))) | ((with_reducible refine Se.isL (o := ⟨some 28, _, _, _, _, _⟩) ?_); (refine Se.toL rfl (Se.bd (o := ⟨some 28, _, _, _, _, _⟩) rfl rfl (BF0.out _) ?_))) | ((with_reducible refine Se.isL (o := ⟨some 33, _, _, _, _, _⟩) ?_); (refine Se.toL rfl (Se.bd (o := ⟨some 33, _, _, _, _, _⟩) rfl rfl (BF2.out _) ?_))) | (go_at_call 10; refine Calls.mono (CN0.out _ hs) ?_; clear hs; rintro e w ⟨g, rfl, hs⟩) | (go_at_call 10; refine Calls.mono (CN1.out _ _ hs) ?_; clear hs; rintro e w ⟨rfl, hs⟩) | (go_at_call 10; refine Calls.mono (CN2.out _ _ hs) ?_; clear hs; rintro e w ⟨rfl, hs⟩))
 go_upto_region 7 with (first | ((with_reducible refine Se.isL (o := ⟨some 38, _, _, _, _, _⟩) ?_); (refine Se.toL rfl (Se.bd (o := ⟨some 38, _, _, _, _, _⟩) rfl rfl (BF0.out _) ?_))) | ((with_reducible refine Se.isL (o := ⟨some 40, _, _, _, _, _⟩) ?_); (refine Se.toL rfl (Se.bs1 (o := ⟨some 40, _, _, _, _, _⟩) hs rfl Try.underlying31 pdu_i (by decide) (by decide) rfl (PL.out) ?_); clear hs; rintro w g40 - hs)) | (go_at_call 28; refine Calls.mono (CR.out _ _ hs) ?_; clear hs; rintro e w ⟨rfl, hs⟩) | (go_at_call 16; refine Calls.mono (CJ.out _ _ g40 hs (Reads.blk 0 rfl)) ?_; clear hs; rintro e w ⟨r, B, c, rfl, hc, hs⟩))
 have h23 : (23 : Int) ≤ (c : Int) := by omega
 have hc23 : ¬ c = 23 := by omega
 have RB1 := Lib.hid (show ∀ M : List At, Reads (.own 1 r B 24 c (KB.map v8) :: M) B ((kbs.take 23).map v8) from fun M => by
  have h := (Reads.own (L := .own 1 r B 24 c (KB.map v8) :: M) 0 rfl).take 23
  rwa [← List.map_take, KL.out.1] at h)
 have RB2 := Lib.hid (show ∀ M : List At, Reads (.own 1 r B 24 c (KB.map v8) :: M) (B.map (·.add 23)) ((kbs.drop 23).map v8) from fun M => by
  have h := sl_from (n := 0) (c := c) (k := 23) (Reads.own (L := .own 1 r B 24 c (KB.map v8) :: M) 0 rfl) (by rw [KL.out.2.2]; decide) (fun h => by omega)
  rwa [if_neg hc23, KL.out.2.1] at h)
 go_upto_region 8 with (first | (go_at_call 11; refine Calls.mono (add_m [_, _] hs (by decide) (kbs.take 23) (by decide) (RB1.out _) (by decide) (by decide) kn_a0) ?_; clear hs; rintro e w ⟨q1, Q1, d1, rfl, hs⟩))
 go_upto_region 9 with (first | ((with_reducible refine Se.isL (o := ⟨some 10, _, _, _, _, _⟩) ?_); (refine Se.toL rfl (Se.al (o := ⟨some 10, _, _, _, _, _⟩) hs rfl (HZ.out) ?_); clear hs; rintro w g10 - hs)) | ((with_reducible refine Se.isL (o := ⟨none, _, _, _, _, _⟩) ?_); (refine Se.toL rfl (Se.sow 0 hs rfl rfl rfl rfl ((by exact (pcl _ HPC1.out).2)) ((by rw [(pcl _ HPC1.out).1]; kernel_rfl)) ((by rw [(pcl _ HPC1.out).1]; rfl)) ?_); clear hs; intro w hs; try simp only [List.cons_append, List.nil_append, List.set_cons_zero] at hs)) | (go_at_call 19; refine Calls.mono (next_m [_, _] hs (by decide) (by decide) (by decide) (by decide) kn_n1) ?_; clear hs; rintro e w ⟨r1a, EA1, ec1, r1b, DA1, dc1, PC1, r1, B1, c1, rfl, HPC1, hs⟩))
 go_upto_region 10 with (first | (go_at_call 11; refine Calls.mono (add_m [_, _, _, _, _] hs (by decide) (kbs.drop 23) (by decide) ((RB2.out _).app [_, _, _]) (by decide) (by decide) kn_a1) ?_; clear hs; rintro e w ⟨q2, Q2, d2, rfl, hs⟩))
 go_upto_region 11 with (first | ((with_reducible refine Se.isL (o := ⟨some 13, _, _, _, _, _⟩) ?_); (refine Se.toL rfl (Se.al (o := ⟨some 13, _, _, _, _, _⟩) hs rfl (HZ.out) ?_); clear hs; rintro w g13 - hs)) | ((with_reducible refine Se.isL (o := ⟨none, _, _, _, _, _⟩) ?_); (refine Se.toL rfl (Se.sow 0 hs rfl rfl rfl rfl ((by exact (pcl _ HPC2.out).2)) ((by rw [(pcl _ HPC2.out).1]; kernel_rfl)) ((by rw [(pcl _ HPC2.out).1]; rfl)) ?_); clear hs; intro w hs; try simp only [List.cons_append, List.nil_append, List.set_cons_zero] at hs)) | (go_at_call 19; refine Calls.mono (next_m [_, _, _, _, _] hs (by decide) (by decide) (by decide) (by decide) kn_n2) ?_; clear hs; rintro e w ⟨r2a, EA2, ec2, r2b, DA2, dc2, PC2, r2, B2, c2, rfl, HPC2, hs⟩))
 go_upto_region 12 with (first | ((with_reducible refine Se.isL (o := ⟨some 15, _, _, _, _, _⟩) ?_); (refine Se.toL rfl (Se.al (o := ⟨some 15, _, _, _, _, _⟩) hs rfl (HZ.out) ?_); clear hs; rintro w g15 - hs)) | ((with_reducible refine Se.isL (o := ⟨none, _, _, _, _, _⟩) ?_); (refine Se.toL rfl (Se.sow 0 hs rfl rfl rfl rfl ((by exact (pcl _ HPC3.out).2)) ((by rw [(pcl _ HPC3.out).1]; kernel_rfl)) ((by rw [(pcl _ HPC3.out).1]; rfl)) ?_); clear hs; intro w hs; try simp only [List.cons_append, List.nil_append, List.set_cons_zero] at hs)) | (go_at_call 19; refine Calls.mono (next_m [_, _, _, _, _, _, _, _] hs (by decide) (by decide) (by decide) (by decide) kn_n3) ?_; clear hs; rintro e w ⟨r3a, EA3, ec3, r3b, DA3, dc3, PC3, r3, B3, c3, rfl, HPC3, hs⟩))
 go_upto_region 13 with (first | (go_at_call 18; refine Calls.mono (consumed_m [_, _, _, _, _, _, _, _, _, _, _] hs (a := 24) (b := 1) rfl rfl) ?_; clear hs; rintro e w ⟨rfl, hs⟩))
 go_upto_region 14 with (first | ((with_reducible refine Se.isL (o := ⟨some 96, _, _, _, _, _⟩) ?_); (refine Se.toL rfl (Se.bsv (o := ⟨some 96, _, _, _, _, _⟩) hs rfl Try.underlying24 Pd.u8i rfl ([.int .u8 8, .int .u8 0, .int .u8 0, .int .u8 0, .int .u8 0, .int .u8 0, .int .u8 0, .int .u8 0]) (by rfl) (by rfl) (by decide) (by decide) (by simp [Value.oneCell']) ?_); clear hs; rintro w g96 - hs)) | (go_at_call 11; refine Calls.mono (add_m [_, _, _, _, _, _, _, _, _, _, _, _] hs (by decide) kbad (by decide) (by rw [KX.out]; exact Reads.blk 0 rfl) (by decide) (by decide) kn_a3) ?_; clear hs; rintro e w ⟨q3, Q3, d3, rfl, hs⟩))
 go_upto_region 15 with (first | ((with_reducible refine Se.isL (o := ⟨some 20, _, _, _, _, _⟩) ?_); (refine Se.toL rfl (Se.al (o := ⟨some 20, _, _, _, _, _⟩) hs rfl (HZ.out) ?_); clear hs; rintro w g20 - hs)) | ((with_reducible refine Se.isL (o := ⟨none, _, _, _, _, _⟩) ?_); (refine Se.toL rfl (Se.sow 0 hs rfl rfl rfl rfl ((by exact (pcl _ HPC4.out).2)) ((by rw [(pcl _ HPC4.out).1]; kernel_rfl)) ((by rw [(pcl _ HPC4.out).1]; rfl)) ?_); clear hs; intro w hs; try simp only [List.cons_append, List.nil_append, List.set_cons_zero] at hs)) | (go_at_call 19; refine Calls.mono (next_m [_, _, _, _, _, _, _, _, _, _, _, _] hs (by decide) (by decide) (by decide) (by decide) kn_n4) ?_; clear hs; rintro e w ⟨r4a, EA4, ec4, r4b, DA4, dc4, PC4, r4, B4, c4, rfl, HPC4, hs⟩))
 have PC2L := Lib.hid (pcl PC2 HPC2.out).1
 refine Ch.region' 50 (fun wx => Blk wx g13 PC2 41) (fun | 12 => true | 13 => true | 41 => true | 46 => true | _ => false) (by kernel_rfl) (by decide +kernel) (hs.drew.hold (.blk g13 41 PC2) (by simp)) ?_
 replace hs := hs.drew
 generalize w.drew = w at hs ⊢
 change Ch.CW _ _ _ _ _ [0, 1, 2, 3, 4, 5, 6, 7, 8, 9, 10, 11, 12, 13, 14, 15, 16, 17, 18, 19, 20, 21, 22, 23, 24, 25, 26, 27, 28, 29, 30, 31, 32, 33, 34, 35, 36, 37, 38, 39, 40, 41, 42, 43, 44, 45, 46, 47, 48, 49] _ _
 iterate 12 ((first | (refine Ch.pure (v := ?_) (by rfl) (by rfl) (by rfl) (fun wx hS => ?_) ?_; rotate_left; (focus (go_simp; (first | done | with_reducible rfl)))) | refine Ch.pure (v := _) (by rfl) (by rfl) (by rfl) (fun wx hS => Se.xla rfl rfl (Li.Rd.of_blk hS) (by rw [PC2L.out] <;> kernel_rfl) (by kernel_rfl)) ?_); (try simp only [Act.put, List.setIfInBounds_toArray, List.set_cons_zero, List.set_cons_succ]))
 refine Ch.noise (by rfl) (by rfl) (by rfl) ?_
 refine Se.gcall (f := 28) (args := #[]) ?_ ?_
 ·go_simp
 refine Calls.mono (CR.out _ _ hs) ?_
 clear hs
 rintro e w ⟨rfl, hs⟩
 refine ⟨_, rfl, hs.hold (.blk g13 41 PC2) (by simp), ?_⟩
 (try simp only [Act.put, List.setIfInBounds_toArray, List.set_cons_zero, List.set_cons_succ])
 refine Ch.noise (by rfl) (by rfl) (by rfl) ?_
 refine Se.gcall (f := 26) (args := #[.agg PC2.toArray, .agg P1.toArray]) ?_ ?_
 ·go_simp
 refine Calls.mono (CS.out _ _ _ _ _ _ _ HPC2 hs) ?_
 clear hs
 rintro e w ⟨rfl, hs⟩
 refine ⟨_, rfl, hs.hold (.blk g13 41 PC2) (by simp), ?_⟩
 (try simp only [Act.put, List.setIfInBounds_toArray, List.set_cons_zero, List.set_cons_succ])
 iterate 27 ((first | (refine Ch.pure (v := ?_) (by rfl) (by rfl) (by rfl) (fun wx hS => ?_) ?_; rotate_left; (focus (go_simp; (first | done | with_reducible rfl))))); (try simp only [Act.put, List.setIfInBounds_toArray, List.set_cons_zero, List.set_cons_succ]))
 refine Ch.noise (by rfl) (by rfl) (by rfl) ?_
 refine Se.gcall (f := 11) (args := #[.pointer (some ⟨g, 0, none⟩), .slice none 0 0]) ?_ ?_
 ·go_simp
 refine Calls.mono (add_m [_, _, _, _, _, _, _, _, _, _, _, _, _, _, _] hs (by decide) [] rfl Reads.nil (by decide) (by decide) kn_a5) ?_
 clear hs
 rintro e w ⟨q5, Q5, d5, rfl, hs⟩
 refine ⟨_, rfl, hs.hold (.blk g13 41 PC2) (by simp), ?_⟩
 (try simp only [Act.put, List.setIfInBounds_toArray, List.set_cons_zero, List.set_cons_succ])
 iterate 4 ((first | (refine Ch.pure (v := ?_) (by rfl) (by rfl) (by rfl) (fun wx hS => ?_) ?_; rotate_left; (focus (go_simp; (first | done | with_reducible rfl))))); (try simp only [Act.put, List.setIfInBounds_toArray, List.set_cons_zero, List.set_cons_succ]))
 refine Ch.noise (by rfl) (by rfl) (by rfl) ?_
 refine Se.gcall (f := 20) (args := #[.pointer (some ⟨g, 0, none⟩)]) ?_ ?_
 ·go_simp
 refine Calls.mono (held_m [_, _, _, _, _, _, _, _, _, _, _, _, _, _, _] hs (n := 0) rfl) ?_
 clear hs
 rintro e w ⟨rfl, hs⟩
 refine ⟨_, rfl, hs.hold (.blk g13 41 PC2) (by simp), ?_⟩
 (try simp only [Act.put, List.setIfInBounds_toArray, List.set_cons_zero, List.set_cons_succ])
 iterate 3 ((first | (refine Ch.pure (v := ?_) (by rfl) (by rfl) (by rfl) (fun wx hS => ?_) ?_; rotate_left; (focus (go_simp; (first | done | with_reducible rfl))))); (try simp only [Act.put, List.setIfInBounds_toArray, List.set_cons_zero, List.set_cons_succ]))
 refine Ch.done ?_
 try simp only [List.drop_succ_cons, List.drop_zero]
 go_wp2_with fail
 go_ret
 exact ⟨rfl, hs.drop.drop.drop.drop.drop.drop.drop.drop.drop.drop.drop.drop.drop.drop.drop.drop.drop⟩
end Sr
end Go.Proofs.Ytdngfcmakjlamaa


/- Layer 35: the chapter's examples. No condition. -/
import Derived.Test.YtgpbmohfgjmpkaaPduEnc2
import Derived.Test.YtgpbmohfgjmpkaaPduMeasD
import Derived.Test.YtgpbmohfgjmpkaaPduStr
set_option linter.unusedSimpArgs false
set_option linter.unusedVariables false
namespace Go.Proofs.Ytgpbmohfgjmpkaa
open Go Go.RowKit
namespace Pd
open Se (St At Reads Cell)
open Li (v8 v8_one Rd Blk Fr)
open Bv (n8 n16 n32 n64)
variable {w0 w : World} {X : List Nat} {L : List At}
attribute [local irreducible] Calls
def kh1 : Hd := { k := 9#8, id := 1#16, tg := 2#16, ln := 512#32 }
def kh2 : Hd := { k := 6#8, la := true, id := 1#16 }
def kf0 : Fm := ⟨false, false, 0⟩
def kf1 : Fm := ⟨false, false, 3⟩
def kf2 : Fm := ⟨true, true, 0⟩
def kb : List (BitVec 8) := [9#8, 0#8, 24#8, 0#8, 24#8, 0#8, 0#8, 0#8, 1#8, 0#8, 2#8, 0#8, 0#8, 0#8, 0#8, 0#8, 0#8, 2#8, 0#8, 0#8, 0#8, 0#8, 0#8, 0#8]
def abc : List (BitVec 8) := [97#8, 98#8, 99#8]
theorem k_enc : encE { h := kh1 } kf0 = (kb, 0) := by decide +kernel
theorem k_s0 : sizeE { h := kh2, da := abc } kf0 = (27, 0) := by decide +kernel
theorem k_s1 : sizeE { h := kh2, da := abc } kf1 = (35, 0) := by decide +kernel
theorem k_s2 : sizeE { h := kh2, da := abc } kf2 = (35, 0) := by decide +kernel
def kn1 : List (BitVec 8) := [9#8, 0#8, 24#8, 0#8, 24#8, 0#8, 0#8, 0#8]
def kn2 : List (BitVec 8) := [8#8, 0#8, 0#8, 0#8, 0#8, 0#8, 0#8, 0#8]
def kn3 : List (BitVec 8) := [9#8, 0#8, 24#8, 0#8, 25#8, 0#8, 0#8, 0#8]
theorem k_m1 : meas kn1 kf0 = (24, 0) := by decide +kernel
theorem k_m2 : meas kn2 kf0 = (0, 360) := by decide +kernel
theorem k_m3 : meas kn3 kf0 = (0, 362) := by decide +kernel
theorem bk1 (w : World) : (Instr.build 27 #[(0, .int .u8 9), (4, .int .u16 1), (5, .int .u16 2), (7, .int .u32 512)]).run Try.prog w = .ok (.agg (pc kh1 none 0 0 none 0 0).toArray) w := by kernel_rfl
theorem bk2 (g : Nat) (w : World) : (Instr.build 27 #[(0, .int .u8 6), (4, .int .u16 1), (1, .bool true), (13, .slice (some ⟨g, 0, none⟩) 3 3)]).run Try.prog w = .ok (.agg (pc kh2 none 0 0 (some ⟨g, 0, none⟩) 3 3).toArray) w := by kernel_rfl
theorem bf0 (w : World) : (Instr.build 29 #[]).run Try.prog w = .ok (fv kf0) w := by kernel_rfl
theorem bf1 (w : World) : (Instr.build 29 #[(2, .int .i64 3)]).run Try.prog w = .ok (fv kf1) w := by kernel_rfl
theorem bf2 (w : World) : (Instr.build 29 #[(0, .bool true), (1, .bool true)]).run Try.prog w = .ok (fv kf2) w := by kernel_rfl
theorem k_str : strB kb = ⟨#[9, 0, 24, 0, 24, 0, 0, 0, 1, 0, 2, 0, 0, 0, 0, 0, 0, 2, 0, 0, 0, 0, 0, 0]⟩ := by decide +kernel
set_option maxRecDepth 100000 in
set_option maxHeartbeats 4000000 in
theorem size_st (hs : St w0 X L w) (p : PDU) (f : Fm) {EA DA : Option Addr} {en ec dn dc : Nat} (hE : Reads L EA (p.en.map v8)) (hD : Reads L DA (p.da.map v8)) (he : en = p.en.length) (hd : dn = p.da.length) (le : en ≤ 70368744177664) (ld : dn ≤ 70368744177664) {n : Nat} (hr : sizeE p f = (n, 0)) :
    Calls Try.prog 24 #[.agg (pc p.h EA en ec DA dn dc).toArray, fv f, iv n] w fun e' w' => e' = .returned (.bool true) ∧ St w0 X L w' := by
  obtain ⟨P, hP⟩ : ∃ P, P = pc p.h EA en ec DA dn dc := ⟨_, rfl⟩
  obtain ⟨F, hF⟩ : ∃ F, F = fl f := ⟨_, rfl⟩
  have PL := Lib.hid (show P.length = 14 by rw [hP]; rfl)
  have FL := Lib.hid (show F.length = 3 by rw [hF]; rfl)
  have CZ : Hid (∀ (L' : List At) (w : World), St w0 X (L' ++ L) w → Calls Try.prog 13 #[.agg P.toArray, .agg F.toArray] w fun e w' => e = .returned (.tuple #[iv n, iv 0]) ∧ St w0 X (L' ++ L) w') := Lib.hid (fun L' w hs => by rw [hF, ← fv_eq, hP]; exact sizeP_st hs p f (hE.app L') (hD.app L') he hd le ld hr)
  rw [← hP, fv_eq, ← hF]
  clear hP hF hE hD he hd le ld hr
  go_enter Try.func24, Try.ntmps24
  go_wp2_with (first | ((with_reducible refine Se.isL (o := ⟨some 10, _, _, _, _, _⟩) ?_); (refine Se.toL rfl (Se.ldw (o := ⟨some 10, _, _, _, _, _⟩) hs rfl rfl ((Reads.blk 1 rfl)) ((by rw [PL.out]; kernel_rfl)) (by kernel_rfl) ?_))) | ((with_reducible refine Se.isL (o := ⟨some 11, _, _, _, _, _⟩) ?_); (refine Se.toL rfl (Se.ldw (o := ⟨some 11, _, _, _, _, _⟩) hs rfl rfl ((Reads.blk 0 rfl)) ((by rw [FL.out]; kernel_rfl)) (by kernel_rfl) ?_))) | ((first | with_reducible refine Se.ab hs ?_ | with_reducible refine Se.abc hs ?_); clear hs; (first | ((fail_if_success (have _q := g3)); generalize w.heap.size = g3; intro w hs) | (generalize w.heap.size = g4; intro w hs))) | (go_at_call 13; refine Calls.mono (CZ.out [_, _] _ hs) ?_; clear hs; rintro e w ⟨rfl, hs⟩))
  go_ret
  exact ⟨rfl, hs.drop.drop⟩
set_option maxRecDepth 100000 in
set_option maxHeartbeats 4000000 in
theorem known_st (hs : St w0 X L w) : Calls Try.prog 11 #[] w fun e' w' => e' = .returned (.bool true) ∧ St w0 X L w' := by
  obtain ⟨P1, hP1⟩ : ∃ P, P = pc kh1 none 0 0 none 0 0 := ⟨_, rfl⟩
  obtain ⟨F0, hF0⟩ : ∃ F, F = fl kf0 := ⟨_, rfl⟩
  obtain ⟨F1, hF1⟩ : ∃ F, F = fl kf1 := ⟨_, rfl⟩
  obtain ⟨F2, hF2⟩ : ∃ F, F = fl kf2 := ⟨_, rfl⟩
  obtain ⟨KB, hKB⟩ : ∃ b, b = kb := ⟨_, rfl⟩
  have CE : Hid (∀ (L' : List At) (w : World), St w0 X (L' ++ L) w → Calls Try.prog 12 #[.agg P1.toArray, .agg F0.toArray] w fun e' w' => ∃ r B c, e' = .returned (.tuple #[.slice B 24 c, iv 0]) ∧ St w0 X (.own 1 r B 24 c (KB.map v8) :: (L' ++ L)) w') := Lib.hid (fun L' w hs => by rw [hP1, hF0, ← fv_eq, hKB]; exact encode_st hs { h := kh1 } kf0 Reads.nil Reads.nil rfl rfl (by decide) (by decide) k_enc rfl)
  have B1 : Hid (∀ w : World, (Instr.build 27 #[(0, .int .u8 9), (4, .int .u16 1), (5, .int .u16 2), (7, .int .u32 512)]).run Try.prog w = .ok (.agg P1.toArray) w) := Lib.hid (by rw [hP1]; exact bk1)
  have BF0 : Hid (∀ w : World, (Instr.build 29 #[]).run Try.prog w = .ok (.agg F0.toArray) w) := Lib.hid (by rw [hF0]; exact bf0)
  have BF1 : Hid (∀ w : World, (Instr.build 29 #[(2, .int .i64 3)]).run Try.prog w = .ok (.agg F1.toArray) w) := Lib.hid (by rw [hF1]; exact bf1)
  have BF2 : Hid (∀ w : World, (Instr.build 29 #[(0, .bool true), (1, .bool true)]).run Try.prog w = .ok (.agg F2.toArray) w) := Lib.hid (by rw [hF2]; exact bf2)
  have CM : Hid (∀ (bs : List (BitVec 8)) (t e : Nat), meas bs kf0 = (t, e) → bs.length = 8 → ∀ (L' : List At) (g : Nat) (w : World), St w0 X (L' ++ L) w → Reads (L' ++ L) (some ⟨g, 0, none⟩) (bs.map v8) → Calls Try.prog 18 #[.slice (some ⟨g, 0, none⟩) 8 8, .agg F0.toArray] w fun e' w' => e' = .returned (.tuple #[iv t, iv e]) ∧ St w0 X (L' ++ L) w') := Lib.hid (fun bs t e hm hl L' g w hs hr => by rw [hF0, ← fv_eq]; exact measureD_st hs bs kf0 hl.symm hr (by omega) (by omega) hm)
  have CM1 := Lib.hid (CM.out kn1 24 0 k_m1 rfl)
  have CM2 := Lib.hid (CM.out kn2 0 360 k_m2 rfl)
  have CM3 := Lib.hid (CM.out kn3 0 362 k_m3 rfl)
  have PX : Hid (∀ g : Nat, ∃ P : List Value, (∀ w : World, (Instr.build 27 #[(0, .int .u8 6), (4, .int .u16 1), (1, .bool true), (13, .slice (some ⟨g, 0, none⟩) 3 3)]).run Try.prog w = .ok (.agg P.toArray) w) ∧ P.length = 14 ∧ (∀ v ∈ P, v.oneCell' = true) ∧ ∀ (n : Nat) (F : List Value), (n = 27 ∧ F = F0 ∨ n = 35 ∧ F = F1 ∨ n = 35 ∧ F = F2) → ∀ (L' : List At) (w : World), St w0 X (L' ++ L) w → Reads (L' ++ L) (some ⟨g, 0, none⟩) (abc.map v8) → Calls Try.prog 24 #[.agg P.toArray, .agg F.toArray, .int .i64 (n : Int)] w fun e' w' => e' = .returned (.bool true) ∧ St w0 X (L' ++ L) w') := Lib.hid (fun g => ⟨pc kh2 none 0 0 (some ⟨g, 0, none⟩) 3 3, bk2 g, rfl, pc_one _ _ _ _ _ _ _, by
    rintro n F (⟨rfl, rfl⟩ | ⟨rfl, rfl⟩ | ⟨rfl, rfl⟩) L' w hs hr
    · rw [hF0, ← fv_eq]; exact size_st hs { h := kh2, da := abc } kf0 Reads.nil hr rfl rfl (by decide) (by decide) k_s0
    · rw [hF1, ← fv_eq]; exact size_st hs { h := kh2, da := abc } kf1 Reads.nil hr rfl rfl (by decide) (by decide) k_s1
    · rw [hF2, ← fv_eq]; exact size_st hs { h := kh2, da := abc } kf2 Reads.nil hr rfl rfl (by decide) (by decide) k_s2⟩)
  obtain ⟨Z, hZ, hZL⟩ := zPdu
  have HZ := Lib.hid hZ
  have ZL := Lib.hid hZL
  have KS := Lib.hid k_str
  have KL : Hid (24 = KB.length) := Lib.hid (by rw [hKB]; rfl)
  rw [← hKB] at KS
  have RB : Hid (kn1.map v8 = [.int .u8 9, .int .u8 0, .int .u8 24, .int .u8 0, .int .u8 24, .int .u8 0, .int .u8 0, .int .u8 0] ∧ kn2.map v8 = [.int .u8 8, .int .u8 0, .int .u8 0, .int .u8 0, .int .u8 0, .int .u8 0, .int .u8 0, .int .u8 0] ∧ kn3.map v8 = [.int .u8 9, .int .u8 0, .int .u8 24, .int .u8 0, .int .u8 25, .int .u8 0, .int .u8 0, .int .u8 0] ∧ abc.map v8 = [.int .u8 97, .int .u8 98, .int .u8 99]) := Lib.hid ⟨rfl, rfl, rfl, rfl⟩
  clear hP1 hF0 hF1 hF2 hKB hZ hZL CM
  go_enter Try.func11, Try.ntmps11
  go_wp2_with (first | ((with_reducible refine Se.isL (o := ⟨some 11, _, _, _, _, _⟩) ?_); (refine Se.toL rfl (Se.bd (o := ⟨some 11, _, _, _, _, _⟩) rfl rfl (B1.out _) ?_))) | ((with_reducible refine Se.isL (o := ⟨some 12, _, _, _, _, _⟩) ?_); (refine Se.toL rfl (Se.bd (o := ⟨some 12, _, _, _, _, _⟩) rfl rfl (BF0.out _) ?_))) | ((with_reducible refine Se.isL (o := ⟨some 16, _, _, _, _, _⟩) ?_); (refine Se.toL rfl (Se.bsv (o := ⟨some 16, _, _, _, _, _⟩) hs rfl Try.underlying23 u8i rfl ([.int .u8 97, .int .u8 98, .int .u8 99]) (by rfl) (by rfl) (by decide) (by decide) (by simp [Value.oneCell']) ?_); clear hs; rintro w g16 - hs)) | (go_at_call 12; refine Calls.mono (CE.out [] _ hs) ?_; clear hs; rintro e w ⟨r, B, c, rfl, hs⟩) | (with_reducible refine Se.isL (o := ⟨some 17, _, _, _, _, _⟩) ?_; refine Se.toL rfl (Se.cvs (o := ⟨some 17, _, _, _, _, _⟩) (g := g16) hs rfl rfl Try.underlying23 Try.underlying5 ?_); clear hs; intro w hs) | (with_reducible refine Se.isL (o := ⟨some 18, _, _, _, _, _⟩) ?_; refine stopHere ?_))
  obtain ⟨P2, BP2, P2L, P2O, CSZ⟩ := PX.out g16
  replace BP2 := Lib.hid BP2
  replace P2L := Lib.hid P2L
  replace P2O := Lib.hid P2O
  have CZ0 := Lib.hid (CSZ 27 F0 (.inl ⟨rfl, rfl⟩))
  have CZ1 := Lib.hid (CSZ 35 F1 (.inr (.inl ⟨rfl, rfl⟩)))
  have CZ2 := Lib.hid (CSZ 35 F2 (.inr (.inr ⟨rfl, rfl⟩)))
  clear CSZ PX
  refine ⟨?_, trivial⟩
  simp only [List.nil_append] at hs
  go_upto_region 3 with (first | ((with_reducible refine Se.isL (o := ⟨some 18, _, _, _, _, _⟩) ?_); (refine Se.toL rfl (Se.bd (o := ⟨some 18, _, _, _, _, _⟩) rfl rfl (BP2.out _) ?_))) | ((with_reducible refine Se.isL (o := ⟨some 3, _, _, _, _, _⟩) ?_); (refine Se.toL rfl (Se.al (o := ⟨some 3, _, _, _, _, _⟩) hs rfl (HZ.out) ?_); clear hs; rintro w g3 - hs)) | ((with_reducible refine Se.isL (o := ⟨none, _, _, _, _, _⟩) ?_); (refine Se.toL rfl (Se.sow 0 hs rfl rfl rfl rfl (P2O.out) ((by rw [P2L.out]; kernel_rfl)) ((by rw [P2L.out, ZL.out])) ?_); clear hs; intro w hs; try simp only [List.cons_append, List.nil_append, List.set_cons_zero] at hs)))
  go_upto_region 4 with (first | ((with_reducible refine Se.isL (o := ⟨some 20, _, _, _, _, _⟩) ?_); (refine Se.toL rfl (Se.bsv (o := ⟨some 20, _, _, _, _, _⟩) hs rfl Try.underlying23 u8i rfl ([.int .u8 9, .int .u8 0, .int .u8 24, .int .u8 0, .int .u8 24, .int .u8 0, .int .u8 0, .int .u8 0]) (by rfl) (by rfl) (by decide) (by decide) (by simp [Value.oneCell']) ?_); clear hs; rintro w g20 - hs)) | ((with_reducible refine Se.isL (o := ⟨some 21, _, _, _, _, _⟩) ?_); (refine Se.toL rfl (Se.bd (o := ⟨some 21, _, _, _, _, _⟩) rfl rfl (BF0.out _) ?_))) | (go_at_call 18; refine Calls.mono (CM1.out [_, _, _, _] _ _ hs (by rw [RB.out.1]; exact Reads.blk 0 rfl)) ?_; clear hs; rintro e w ⟨rfl, hs⟩))
  go_upto_region 5 with (first | ((with_reducible refine Se.isL (o := ⟨some 26, _, _, _, _, _⟩) ?_); (refine Se.toL rfl (Se.bsv (o := ⟨some 26, _, _, _, _, _⟩) hs rfl Try.underlying23 u8i rfl ([.int .u8 8, .int .u8 0, .int .u8 0, .int .u8 0, .int .u8 0, .int .u8 0, .int .u8 0, .int .u8 0]) (by rfl) (by rfl) (by decide) (by decide) (by simp [Value.oneCell']) ?_); clear hs; rintro w g26 - hs)) | ((with_reducible refine Se.isL (o := ⟨some 27, _, _, _, _, _⟩) ?_); (refine Se.toL rfl (Se.bd (o := ⟨some 27, _, _, _, _, _⟩) rfl rfl (BF0.out _) ?_))) | (go_at_call 18; refine Calls.mono (CM2.out [_, _, _, _, _] _ _ hs (by rw [RB.out.2.1]; exact Reads.blk 0 rfl)) ?_; clear hs; rintro e w ⟨rfl, hs⟩))
  go_upto_region 6 with (first | ((with_reducible refine Se.isL (o := ⟨some 32, _, _, _, _, _⟩) ?_); (refine Se.toL rfl (Se.bsv (o := ⟨some 32, _, _, _, _, _⟩) hs rfl Try.underlying23 u8i rfl ([.int .u8 9, .int .u8 0, .int .u8 24, .int .u8 0, .int .u8 25, .int .u8 0, .int .u8 0, .int .u8 0]) (by rfl) (by rfl) (by decide) (by decide) (by simp [Value.oneCell']) ?_); clear hs; rintro w g32 - hs)) | ((with_reducible refine Se.isL (o := ⟨some 33, _, _, _, _, _⟩) ?_); (refine Se.toL rfl (Se.bd (o := ⟨some 33, _, _, _, _, _⟩) rfl rfl (BF0.out _) ?_))) | (go_at_call 18; refine Calls.mono (CM3.out [_, _, _, _, _, _] _ _ hs (by rw [RB.out.2.2.1]; exact Reads.blk 0 rfl)) ?_; clear hs; rintro e w ⟨rfl, hs⟩))
  have c1 : (convert 23 9 (.slice B 24 c)).run Try.prog w = .ok (.string (strB KB)) w := run_str w Try.underlying23 Try.underlying5 Try.underlying9 KL.out ((Reads.own 5 rfl) w hs.hold)
  have ks := KS.out
  go_wp2_with (first | ((with_reducible refine Se.isL (o := ⟨some 45, _, _, _, _, _⟩) ?_); (refine Se.toL rfl (Se.ldw (o := ⟨some 45, _, _, _, _, _⟩) hs rfl rfl ((Reads.blk 3 rfl)) ((by rw [P2L.out]; kernel_rfl)) (by kernel_rfl) ?_))) | ((with_reducible refine Se.isL (o := ⟨some 50, _, _, _, _, _⟩) ?_); (refine Se.toL rfl (Se.ldw (o := ⟨some 50, _, _, _, _, _⟩) hs rfl rfl ((Reads.blk 3 rfl)) ((by rw [P2L.out]; kernel_rfl)) (by kernel_rfl) ?_))) | ((with_reducible refine Se.isL (o := ⟨some 55, _, _, _, _, _⟩) ?_); (refine Se.toL rfl (Se.ldw (o := ⟨some 55, _, _, _, _, _⟩) hs rfl rfl ((Reads.blk 3 rfl)) ((by rw [P2L.out]; kernel_rfl)) (by kernel_rfl) ?_))) | ((with_reducible refine Se.isL (o := ⟨some 46, _, _, _, _, _⟩) ?_); (refine Se.toL rfl (Se.bd (o := ⟨some 46, _, _, _, _, _⟩) rfl rfl (BF0.out _) ?_))) | ((with_reducible refine Se.isL (o := ⟨some 51, _, _, _, _, _⟩) ?_); (refine Se.toL rfl (Se.bd (o := ⟨some 51, _, _, _, _, _⟩) rfl rfl (BF1.out _) ?_))) | ((with_reducible refine Se.isL (o := ⟨some 56, _, _, _, _, _⟩) ?_); (refine Se.toL rfl (Se.bd (o := ⟨some 56, _, _, _, _, _⟩) rfl rfl (BF2.out _) ?_))) | (go_at_call 24; refine Calls.mono (CZ0.out [_, _, _, _, _, _] _ hs (by rw [RB.out.2.2.2]; exact Reads.rd 4 rfl)) ?_; clear hs; rintro e w ⟨rfl, hs⟩) | (go_at_call 24; refine Calls.mono (CZ1.out [_, _, _, _, _, _] _ hs (by rw [RB.out.2.2.2]; exact Reads.rd 4 rfl)) ?_; clear hs; rintro e w ⟨rfl, hs⟩) | (go_at_call 24; refine Calls.mono (CZ2.out [_, _, _, _, _, _] _ hs (by rw [RB.out.2.2.2]; exact Reads.rd 4 rfl)) ?_; clear hs; rintro e w ⟨rfl, hs⟩))
  go_ret
  exact ⟨rfl, hs.drop.drop.drop.drop.drop.drop⟩
end Pd
end Go.Proofs.Ytgpbmohfgjmpkaa

/- Layer 35: the flags of a PDU. No condition. -/
import Derived.Test.YtdngfcmakjlamaaPduHv
set_option linter.unusedSimpArgs false
set_option linter.unusedVariables false
namespace Go.Proofs.Ytdngfcmakjlamaa
open Go Go.RowKit
namespace Pd
open Se (St At Reads Cell)
open Li (v8 v8_one Rd Blk Fr)
open Bv (n8 n16 n32 n64)
variable {w0 w : World} {X : List Nat} {L : List At}
attribute [local irreducible] Calls
def flN (b0 b1 b2 b3 : Bool) (i : Nat) : Nat := (if 0 < i ∧ b0 = true then 1 else 0) + (if 1 < i ∧ b1 = true then 2 else 0) + (if 2 < i ∧ b2 = true then 4 else 0) + (if 3 < i ∧ b3 = true then 8 else 0)
theorem flI : (Try.prog.info? 117).map (fun i => (i.zero, i.size)) = some (some (.agg #[.bool false, .int .u8 0]), 2) := by kernel_rfl
theorem flZ : (Try.prog.info? 117).bind (fun i => i.zero.map (·.cells.toList)) = some [.bool false, .int .u8 0] := by kernel_rfl
def flv (b0 b1 b2 b3 : Bool) : List Value := [.bool b0, .int .u8 1, .bool b1, .int .u8 2, .bool b2, .int .u8 4, .bool b3, .int .u8 8]
theorem fl_or (b0 b1 b2 b3 : Bool) : (b0 = true → bits .or .u8 (flN b0 b1 b2 b3 0 : Nat) 1 = (flN b0 b1 b2 b3 1 : Nat)) ∧ (b1 = true → bits .or .u8 (flN b0 b1 b2 b3 1 : Nat) 2 = (flN b0 b1 b2 b3 2 : Nat)) ∧ (b2 = true → bits .or .u8 (flN b0 b1 b2 b3 2 : Nat) 4 = (flN b0 b1 b2 b3 3 : Nat)) ∧ (b3 = true → bits .or .u8 (flN b0 b1 b2 b3 3 : Nat) 8 = (flN b0 b1 b2 b3 4 : Nat)) := by
 cases b0 <;> cases b1 <;> cases b2 <;> cases b3 <;> decide
theorem fl_no (b0 b1 b2 b3 : Bool) : (b0 = false → flN b0 b1 b2 b3 1 = flN b0 b1 b2 b3 0) ∧ (b1 = false → flN b0 b1 b2 b3 2 = flN b0 b1 b2 b3 1) ∧ (b2 = false → flN b0 b1 b2 b3 3 = flN b0 b1 b2 b3 2) ∧ (b3 = false → flN b0 b1 b2 b3 4 = flN b0 b1 b2 b3 3) := by
 cases b0 <;> cases b1 <;> cases b2 <;> cases b3 <;> decide
set_option maxRecDepth 100000 in
set_option maxHeartbeats 4000000 in
theorem flags_st (hs : St w0 X L w) (p : PDU) (h d : Nat) {EA DA : Option Addr} {en ec dn dc : Nat} {n : Nat} (hn : flagsN p h d = n) :
  Calls Try.prog 55 #[.agg (pc p.h EA en ec DA dn dc).toArray, iv h, iv d] w fun e w' => e = .returned (.int .u8 (n : Int)) ∧ St w0 X L w' := by
 obtain ⟨P, hP⟩ : ∃ P, P = pc p.h EA en ec DA dn dc := ⟨_, rfl⟩
 obtain ⟨b0, hb0⟩ : ∃ b, decide (0 < h) = b := ⟨_, rfl⟩
 obtain ⟨b1, hb1⟩ : ∃ b, decide (0 < d) = b := ⟨_, rfl⟩
 obtain ⟨b2, hb2⟩ : ∃ b, p.h.la = b := ⟨_, rfl⟩
 obtain ⟨b3, hb3⟩ : ∃ b, p.h.su = b := ⟨_, rfl⟩
 have HN : Hid (flN b0 b1 b2 b3 4 = n) := Lib.hid (by rw [← hn, ← hb0, ← hb1, ← hb2, ← hb3]; unfold flN flagsN; simp)
 have P1 := Lib.hid (show P[1]? = some (.bool b2) by rw [hP, ← hb2]; rfl)
 have P2 := Lib.hid (show P[2]? = some (.bool b3) by rw [hP, ← hb3]; rfl)
 have O := Lib.hid (fl_or b0 b1 b2 b3)
 have NO := Lib.hid (fl_no b0 b1 b2 b3)
 have F0 : Hid (flN b0 b1 b2 b3 0 = 0) := Lib.hid (by unfold flN; simp)
 have FI := Lib.hid flI
 have FZ := Lib.hid flZ
 obtain ⟨g, hg⟩ : ∃ g : Nat → Nat, g = flN b0 b1 b2 b3 := ⟨_, rfl⟩
 rw [← hP]
 rw [← hg] at HN O NO F0
 clear hn hP hb2 hb3 hg
 go_enter Try.func55, Try.ntmps55
 go_wp2_with (first | ((with_reducible refine Se.isL (o := ⟨some 16, _, _, _, _, _⟩) ?_); (refine Se.toL rfl (Se.ld (o := ⟨some 16, _, _, _, _, _⟩) hs rfl rfl (Cell.blk 0 rfl P1.out) (by kernel_rfl) ?_))) | ((with_reducible refine Se.isL (o := ⟨some 19, _, _, _, _, _⟩) ?_); (refine Se.toL rfl (Se.ld (o := ⟨some 19, _, _, _, _, _⟩) hs rfl rfl (Cell.blk 0 rfl P2.out) (by kernel_rfl) ?_))) | ((with_reducible refine Se.isL (o := ⟨some 11, _, _, _, _, _⟩) ?_); (refine Se.toL rfl (Se.bd (o := ⟨some 11, _, _, _, _, _⟩) rfl rfl (rfl) ?_))) | ((with_reducible refine Se.isL (o := ⟨some 14, _, _, _, _, _⟩) ?_); (refine Se.toL rfl (Se.bd (o := ⟨some 14, _, _, _, _, _⟩) rfl rfl (rfl) ?_))) | ((with_reducible refine Se.isL (o := ⟨some 17, _, _, _, _, _⟩) ?_); (refine Se.toL rfl (Se.bd (o := ⟨some 17, _, _, _, _, _⟩) rfl rfl (rfl) ?_))) | ((with_reducible refine Se.isL (o := ⟨some 20, _, _, _, _, _⟩) ?_); (refine Se.toL rfl (Se.bd (o := ⟨some 20, _, _, _, _, _⟩) rfl rfl (rfl) ?_))) | ((first | with_reducible refine Se.ab hs ?_ | with_reducible refine Se.abc hs ?_); clear hs; (first | ((fail_if_success (have _q := g3)); generalize w.heap.size = g3; intro w hs) | (generalize w.heap.size = g21; intro w hs))))
 go_loopg [6, 23] 4 (fun gh s6 s23 wr => ∃ i : Nat, gh = 4 - i ∧ i ≤ 4 ∧ s23 = .int .i64 i ∧ s6 = .int .u8 (g i : Nat) ∧ St w0 X (.blk g21 117 (flv b0 b1 b2 b3) :: .blk g3 41 P :: L) wr)
 case atStart => exact ⟨0, rfl, by omega, rfl, by rw [F0.out]; rfl, hs⟩
 case round =>
  clear hs
  rename World => w
  obtain ⟨i, rfl, hi, rfl, rfl, hs⟩ := hrel
  clear hb0 hb1 F0
  have key : i = 0 ∨ i = 1 ∨ i = 2 ∨ i = 3 ∨ i = 4 := by omega
  obtain ⟨V, hV⟩ : ∃ V, V = flv b0 b1 b2 b3 := ⟨_, rfl⟩
  have V0 := Lib.hid (show (V.drop 0).take 2 = [.bool b0, .int .u8 1] by rw [hV]; rfl)
  have V1 := Lib.hid (show (V.drop 2).take 2 = [.bool b1, .int .u8 2] by rw [hV]; rfl)
  have V2 := Lib.hid (show (V.drop 4).take 2 = [.bool b2, .int .u8 4] by rw [hV]; rfl)
  have V3 := Lib.hid (show (V.drop 6).take 2 = [.bool b3, .int .u8 8] by rw [hV]; rfl)
  have VL := Lib.hid (show V.length = 8 by rw [hV]; rfl)
  have HV := Lib.hid hV
  rw [← hV] at hs
  clear hV hi
  rcases key with rfl | rfl | rfl | rfl | rfl
  ·cases b0 with
   | true =>
    have e : bits .or .u8 (g 0 : Nat) 1 = (g 1 : Nat) := O.out.1 rfl
    clear O NO
    go_wp2_with (first | ((with_reducible refine Se.isL (o := ⟨some 8, _, _, _, _, _⟩) ?_); (refine Se.toL rfl (Se.al (o := ⟨some 8, _, _, _, _, _⟩) hs rfl (FZ.out) ?_); clear hs; rintro w g8 - hs)) | ((with_reducible refine Se.isL (o := ⟨none, _, _, _, _, _⟩) ?_); (refine Se.toL rfl (Se.sow 0 hs rfl rfl rfl rfl ((by simp [Value.oneCell'])) ((by kernel_rfl)) (rfl) ?_); clear hs; intro w hs; try simp only [List.cons_append, List.nil_append, List.set_cons_zero] at hs)) | ((with_reducible refine Se.isL (o := ⟨some 28, _, _, _, _, _⟩) ?_); (refine Se.toL rfl (Se.ld (o := ⟨some 28, _, _, _, _, _⟩) hs rfl rfl (Cell.blk 0 rfl rfl) (by kernel_rfl) ?_))) | ((with_reducible refine Se.isL (o := ⟨some 31, _, _, _, _, _⟩) ?_); (refine Se.toL rfl (Se.ld (o := ⟨some 31, _, _, _, _, _⟩) hs rfl rfl (Cell.blk 0 rfl rfl) (by kernel_rfl) ?_))) | (with_reducible refine Se.isL (o := ⟨some 26, _, _, _, _, _⟩) ?_; refine Se.toL rfl (Se.lda (o := ⟨some 26, _, _, _, _, _⟩) (n := 2) hs rfl rfl ((Reads.blk 0 rfl).at 0) (by kernel_rfl) (by kernel_rfl) (by rw [List.length_drop, VL.out]; decide) ?_); rw [V0.out]))
    go_roundg 3
    case measure => omega
    case rel => exact ⟨1, rfl, by omega, by go_num, rfl, by rw [← HV.out]; exact hs.drop⟩
   | false =>
    have e := Lib.hid (NO.out.1 rfl)
    clear O NO
    go_wp2_with (first | ((with_reducible refine Se.isL (o := ⟨some 8, _, _, _, _, _⟩) ?_); (refine Se.toL rfl (Se.al (o := ⟨some 8, _, _, _, _, _⟩) hs rfl (FZ.out) ?_); clear hs; rintro w g8 - hs)) | ((with_reducible refine Se.isL (o := ⟨none, _, _, _, _, _⟩) ?_); (refine Se.toL rfl (Se.sow 0 hs rfl rfl rfl rfl ((by simp [Value.oneCell'])) ((by kernel_rfl)) (rfl) ?_); clear hs; intro w hs; try simp only [List.cons_append, List.nil_append, List.set_cons_zero] at hs)) | ((with_reducible refine Se.isL (o := ⟨some 28, _, _, _, _, _⟩) ?_); (refine Se.toL rfl (Se.ld (o := ⟨some 28, _, _, _, _, _⟩) hs rfl rfl (Cell.blk 0 rfl rfl) (by kernel_rfl) ?_))) | (with_reducible refine Se.isL (o := ⟨some 26, _, _, _, _, _⟩) ?_; refine Se.toL rfl (Se.lda (o := ⟨some 26, _, _, _, _, _⟩) (n := 2) hs rfl rfl ((Reads.blk 0 rfl).at 0) (by kernel_rfl) (by kernel_rfl) (by rw [List.length_drop, VL.out]; decide) ?_); rw [V0.out]))
    go_roundg 3
    case measure => omega
    case rel => exact ⟨1, rfl, by omega, by go_num, by rw [e.out], by rw [← HV.out]; exact hs.drop⟩
  ·cases b1 with
   | true =>
    have e : bits .or .u8 (g 1 : Nat) 2 = (g 2 : Nat) := O.out.2.1 rfl
    clear O NO
    go_wp2_with (first | ((with_reducible refine Se.isL (o := ⟨some 8, _, _, _, _, _⟩) ?_); (refine Se.toL rfl (Se.al (o := ⟨some 8, _, _, _, _, _⟩) hs rfl (FZ.out) ?_); clear hs; rintro w g8 - hs)) | ((with_reducible refine Se.isL (o := ⟨none, _, _, _, _, _⟩) ?_); (refine Se.toL rfl (Se.sow 0 hs rfl rfl rfl rfl ((by simp [Value.oneCell'])) ((by kernel_rfl)) (rfl) ?_); clear hs; intro w hs; try simp only [List.cons_append, List.nil_append, List.set_cons_zero] at hs)) | ((with_reducible refine Se.isL (o := ⟨some 28, _, _, _, _, _⟩) ?_); (refine Se.toL rfl (Se.ld (o := ⟨some 28, _, _, _, _, _⟩) hs rfl rfl (Cell.blk 0 rfl rfl) (by kernel_rfl) ?_))) | ((with_reducible refine Se.isL (o := ⟨some 31, _, _, _, _, _⟩) ?_); (refine Se.toL rfl (Se.ld (o := ⟨some 31, _, _, _, _, _⟩) hs rfl rfl (Cell.blk 0 rfl rfl) (by kernel_rfl) ?_))) | (with_reducible refine Se.isL (o := ⟨some 26, _, _, _, _, _⟩) ?_; refine Se.toL rfl (Se.lda (o := ⟨some 26, _, _, _, _, _⟩) (n := 2) hs rfl rfl ((Reads.blk 0 rfl).at 2) (by kernel_rfl) (by kernel_rfl) (by rw [List.length_drop, VL.out]; decide) ?_); rw [V1.out]))
    go_roundg 2
    case measure => omega
    case rel => exact ⟨2, rfl, by omega, by go_num, rfl, by rw [← HV.out]; exact hs.drop⟩
   | false =>
    have e := Lib.hid (NO.out.2.1 rfl)
    clear O NO
    go_wp2_with (first | ((with_reducible refine Se.isL (o := ⟨some 8, _, _, _, _, _⟩) ?_); (refine Se.toL rfl (Se.al (o := ⟨some 8, _, _, _, _, _⟩) hs rfl (FZ.out) ?_); clear hs; rintro w g8 - hs)) | ((with_reducible refine Se.isL (o := ⟨none, _, _, _, _, _⟩) ?_); (refine Se.toL rfl (Se.sow 0 hs rfl rfl rfl rfl ((by simp [Value.oneCell'])) ((by kernel_rfl)) (rfl) ?_); clear hs; intro w hs; try simp only [List.cons_append, List.nil_append, List.set_cons_zero] at hs)) | ((with_reducible refine Se.isL (o := ⟨some 28, _, _, _, _, _⟩) ?_); (refine Se.toL rfl (Se.ld (o := ⟨some 28, _, _, _, _, _⟩) hs rfl rfl (Cell.blk 0 rfl rfl) (by kernel_rfl) ?_))) | (with_reducible refine Se.isL (o := ⟨some 26, _, _, _, _, _⟩) ?_; refine Se.toL rfl (Se.lda (o := ⟨some 26, _, _, _, _, _⟩) (n := 2) hs rfl rfl ((Reads.blk 0 rfl).at 2) (by kernel_rfl) (by kernel_rfl) (by rw [List.length_drop, VL.out]; decide) ?_); rw [V1.out]))
    go_roundg 2
    case measure => omega
    case rel => exact ⟨2, rfl, by omega, by go_num, by rw [e.out], by rw [← HV.out]; exact hs.drop⟩
  ·cases b2 with
   | true =>
    have e : bits .or .u8 (g 2 : Nat) 4 = (g 3 : Nat) := O.out.2.2.1 rfl
    clear O NO
    go_wp2_with (first | ((with_reducible refine Se.isL (o := ⟨some 8, _, _, _, _, _⟩) ?_); (refine Se.toL rfl (Se.al (o := ⟨some 8, _, _, _, _, _⟩) hs rfl (FZ.out) ?_); clear hs; rintro w g8 - hs)) | ((with_reducible refine Se.isL (o := ⟨none, _, _, _, _, _⟩) ?_); (refine Se.toL rfl (Se.sow 0 hs rfl rfl rfl rfl ((by simp [Value.oneCell'])) ((by kernel_rfl)) (rfl) ?_); clear hs; intro w hs; try simp only [List.cons_append, List.nil_append, List.set_cons_zero] at hs)) | ((with_reducible refine Se.isL (o := ⟨some 28, _, _, _, _, _⟩) ?_); (refine Se.toL rfl (Se.ld (o := ⟨some 28, _, _, _, _, _⟩) hs rfl rfl (Cell.blk 0 rfl rfl) (by kernel_rfl) ?_))) | ((with_reducible refine Se.isL (o := ⟨some 31, _, _, _, _, _⟩) ?_); (refine Se.toL rfl (Se.ld (o := ⟨some 31, _, _, _, _, _⟩) hs rfl rfl (Cell.blk 0 rfl rfl) (by kernel_rfl) ?_))) | (with_reducible refine Se.isL (o := ⟨some 26, _, _, _, _, _⟩) ?_; refine Se.toL rfl (Se.lda (o := ⟨some 26, _, _, _, _, _⟩) (n := 2) hs rfl rfl ((Reads.blk 0 rfl).at 4) (by kernel_rfl) (by kernel_rfl) (by rw [List.length_drop, VL.out]; decide) ?_); rw [V2.out]))
    go_roundg 1
    case measure => omega
    case rel => exact ⟨3, rfl, by omega, by go_num, rfl, by rw [← HV.out]; exact hs.drop⟩
   | false =>
    have e := Lib.hid (NO.out.2.2.1 rfl)
    clear O NO
    go_wp2_with (first | ((with_reducible refine Se.isL (o := ⟨some 8, _, _, _, _, _⟩) ?_); (refine Se.toL rfl (Se.al (o := ⟨some 8, _, _, _, _, _⟩) hs rfl (FZ.out) ?_); clear hs; rintro w g8 - hs)) | ((with_reducible refine Se.isL (o := ⟨none, _, _, _, _, _⟩) ?_); (refine Se.toL rfl (Se.sow 0 hs rfl rfl rfl rfl ((by simp [Value.oneCell'])) ((by kernel_rfl)) (rfl) ?_); clear hs; intro w hs; try simp only [List.cons_append, List.nil_append, List.set_cons_zero] at hs)) | ((with_reducible refine Se.isL (o := ⟨some 28, _, _, _, _, _⟩) ?_); (refine Se.toL rfl (Se.ld (o := ⟨some 28, _, _, _, _, _⟩) hs rfl rfl (Cell.blk 0 rfl rfl) (by kernel_rfl) ?_))) | (with_reducible refine Se.isL (o := ⟨some 26, _, _, _, _, _⟩) ?_; refine Se.toL rfl (Se.lda (o := ⟨some 26, _, _, _, _, _⟩) (n := 2) hs rfl rfl ((Reads.blk 0 rfl).at 4) (by kernel_rfl) (by kernel_rfl) (by rw [List.length_drop, VL.out]; decide) ?_); rw [V2.out]))
    go_roundg 1
    case measure => omega
    case rel => exact ⟨3, rfl, by omega, by go_num, by rw [e.out], by rw [← HV.out]; exact hs.drop⟩
  ·cases b3 with
   | true =>
    have e : bits .or .u8 (g 3 : Nat) 8 = (g 4 : Nat) := O.out.2.2.2 rfl
    clear O NO
    go_wp2_with (first | ((with_reducible refine Se.isL (o := ⟨some 8, _, _, _, _, _⟩) ?_); (refine Se.toL rfl (Se.al (o := ⟨some 8, _, _, _, _, _⟩) hs rfl (FZ.out) ?_); clear hs; rintro w g8 - hs)) | ((with_reducible refine Se.isL (o := ⟨none, _, _, _, _, _⟩) ?_); (refine Se.toL rfl (Se.sow 0 hs rfl rfl rfl rfl ((by simp [Value.oneCell'])) ((by kernel_rfl)) (rfl) ?_); clear hs; intro w hs; try simp only [List.cons_append, List.nil_append, List.set_cons_zero] at hs)) | ((with_reducible refine Se.isL (o := ⟨some 28, _, _, _, _, _⟩) ?_); (refine Se.toL rfl (Se.ld (o := ⟨some 28, _, _, _, _, _⟩) hs rfl rfl (Cell.blk 0 rfl rfl) (by kernel_rfl) ?_))) | ((with_reducible refine Se.isL (o := ⟨some 31, _, _, _, _, _⟩) ?_); (refine Se.toL rfl (Se.ld (o := ⟨some 31, _, _, _, _, _⟩) hs rfl rfl (Cell.blk 0 rfl rfl) (by kernel_rfl) ?_))) | (with_reducible refine Se.isL (o := ⟨some 26, _, _, _, _, _⟩) ?_; refine Se.toL rfl (Se.lda (o := ⟨some 26, _, _, _, _, _⟩) (n := 2) hs rfl rfl ((Reads.blk 0 rfl).at 6) (by kernel_rfl) (by kernel_rfl) (by rw [List.length_drop, VL.out]; decide) ?_); rw [V3.out]))
    go_roundg 0
    case measure => omega
    case rel => exact ⟨4, rfl, by omega, by go_num, rfl, by rw [← HV.out]; exact hs.drop⟩
   | false =>
    have e := Lib.hid (NO.out.2.2.2 rfl)
    clear O NO
    go_wp2_with (first | ((with_reducible refine Se.isL (o := ⟨some 8, _, _, _, _, _⟩) ?_); (refine Se.toL rfl (Se.al (o := ⟨some 8, _, _, _, _, _⟩) hs rfl (FZ.out) ?_); clear hs; rintro w g8 - hs)) | ((with_reducible refine Se.isL (o := ⟨none, _, _, _, _, _⟩) ?_); (refine Se.toL rfl (Se.sow 0 hs rfl rfl rfl rfl ((by simp [Value.oneCell'])) ((by kernel_rfl)) (rfl) ?_); clear hs; intro w hs; try simp only [List.cons_append, List.nil_append, List.set_cons_zero] at hs)) | ((with_reducible refine Se.isL (o := ⟨some 28, _, _, _, _, _⟩) ?_); (refine Se.toL rfl (Se.ld (o := ⟨some 28, _, _, _, _, _⟩) hs rfl rfl (Cell.blk 0 rfl rfl) (by kernel_rfl) ?_))) | (with_reducible refine Se.isL (o := ⟨some 26, _, _, _, _, _⟩) ?_; refine Se.toL rfl (Se.lda (o := ⟨some 26, _, _, _, _, _⟩) (n := 2) hs rfl rfl ((Reads.blk 0 rfl).at 6) (by kernel_rfl) (by kernel_rfl) (by rw [List.length_drop, VL.out]; decide) ?_); rw [V3.out]))
    go_roundg 0
    case measure => omega
    case rel => exact ⟨4, rfl, by omega, by go_num, by rw [e.out], by rw [← HV.out]; exact hs.drop⟩
  ·clear O NO
   go_wp2_with fail
   go_ret
   rw [HN.out]
   exact ⟨rfl, hs.drop.drop⟩
end Pd
end Go.Proofs.Ytdngfcmakjlamaa


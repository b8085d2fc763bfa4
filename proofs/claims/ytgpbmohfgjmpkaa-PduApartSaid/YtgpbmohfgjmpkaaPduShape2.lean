/- Layer 35: the shape of a kind, the lengths of digests, the data offset. No condition but a valid framing. -/
import Derived.Test.YtgpbmohfgjmpkaaPduShape
set_option linter.unusedSimpArgs false
set_option linter.unusedVariables false
namespace Go.Proofs.Ytgpbmohfgjmpkaa
open Go Go.RowKit
namespace Pd
open Se (St At Reads Cell)
open Li (v8 v8_one Rd)
open Bv (n8 n16 n32 n64)
variable {w0 w : World} {X : List Nat} {L : List At}
attribute [local irreducible] Calls
theorem kinds_cases (k : Nat) : (k = 0 ∨ k = 1 ∨ k = 2 ∨ k = 3 ∨ k = 4 ∨ k = 5 ∨ k = 6 ∨ k = 7 ∨ k = 9) ∨ k = 8 ∨ 10 ≤ k := by omega
theorem hdr_none (k : Nat) (h : k = 8 ∨ 10 ≤ k) : hdr k = 0 := by
  unfold hdr
  split <;> omega
attribute [local irreducible] shV shapesV
set_option maxRecDepth 100000 in
set_option maxHeartbeats 4000000 in
theorem of_st (hs : St w0 X L w) (k : Nat) (hk : k < 256) {b : Bool} (hb : decide (hdr k ≠ 0) = b) {xs : List Value} (hxs : shV k = xs) : Calls Try.prog 25 #[.int .u8 k] w fun e w' => e = .returned (.tuple #[.agg xs.toArray, .bool b]) ∧ St w0 X L w' := by
  obtain ⟨S, hS⟩ : ∃ S, S = shapesV := ⟨_, rfl⟩
  obtain ⟨Z, hZ, hZL⟩ := zShapes
  obtain ⟨Y, hY⟩ : ∃ Y, Y = shV 8 := ⟨_, rfl⟩
  have HY := Lib.hid hY
  have ZY := Lib.hid zShape
  rw [← hY] at ZY
  have YL := Lib.hid (show Y.length = 7 by rw [hY, shV_eq]; rfl)
  have HS := Lib.hid hS
  have HZ := Lib.hid hZ
  have ZL := Lib.hid hZL
  have HB := Lib.hid hb
  have HX := Lib.hid hxs
  have XL := Lib.hid (show xs.length = 7 by rw [← hxs, shV_eq]; rfl)
  have XO := Lib.hid (show ∀ v ∈ xs, v.oneCell' = true by rw [← hxs]; exact shV_one k)
  have SO := Lib.hid (show ∀ v ∈ S, v.oneCell' = true by rw [hS]; exact shapes_one)
  have SL := Lib.hid (show S.length = 70 by rw [hS]; exact shapes_len)
  have SA := Lib.hid (fun i (h : i < 10) => show (S.drop (7 * i)).take 7 = shV i by rw [hS]; exact shapes_at i h)
  have SH := Lib.hid (fun i (h : i < 10) => show S[7 * i]? = some (iv (hdr i)) by rw [hS]; exact shapes_hdr i h)
  clear hZ hZL hS hb hxs hY
  rcases kinds_cases k with (rfl | rfl | rfl | rfl | rfl | rfl | rfl | rfl | rfl) | rfl | h10
  · have C : Hid (S[0]? = some (.int .i64 128)) := Lib.hid (SH.out 0 (by omega))
    obtain rfl : b = true := by rw [← HB.out]; rfl
    have R : Hid ((S.drop 0).take 7 = xs) := Lib.hid ((SA.out 0 (by omega)).trans HX.out)
    go_enter Try.func25, Try.ntmps25
    go_wp2_with (first | ((with_reducible refine Se.isL (o := ⟨some 2, _, _, _, _, _⟩) ?_); (refine Se.toL rfl (Se.al (o := ⟨some 2, _, _, _, _, _⟩) hs rfl (ZY.out) ?_); clear hs; rintro w g2 - hs)) | ((with_reducible refine Se.isL (o := ⟨some 4, _, _, _, _, _⟩) ?_); (refine Se.toL rfl (Se.al (o := ⟨some 4, _, _, _, _, _⟩) hs rfl (HZ.out) ?_); clear hs; rintro w g4 - hs)) | ((with_reducible refine Se.isL (o := ⟨none, Op.store 81 _ _, _, _, _, _⟩) ?_); (refine Se.toL rfl (Se.sow 0 hs rfl rfl rfl rfl (SO.out) ((by rw [SL.out]; kernel_rfl)) ((by rw [SL.out, ZL.out])) ?_); clear hs; intro w hs; try simp only [List.set_cons_zero] at hs)) | ((with_reducible refine Se.isL (o := ⟨some 13, _, _, _, _, _⟩) ?_); (refine Se.toL rfl (Se.ld (o := ⟨some 13, _, _, _, _, _⟩) hs rfl rfl (Cell.blk 0 rfl C.out) (by kernel_rfl) ?_))) | ((with_reducible refine Se.isL (o := ⟨none, Op.store 57 _ _, _, _, _, _⟩) ?_); (refine Se.toL rfl (Se.sow 1 hs rfl rfl rfl rfl ((by rw [R.out]; exact XO.out)) ((by rw [R.out, XL.out]; kernel_rfl)) ((by rw [R.out, XL.out, YL.out])) ?_); clear hs; intro w hs; try simp only [List.set_cons_zero, List.set_cons_succ] at hs)) | (go_at_call 54; refine Calls.mono (shapes_st hs HS.out) ?_; clear hs; rintro e w ⟨rfl, hs⟩) | (with_reducible refine Se.isL (o := ⟨some 19, _, _, _, _, _⟩) ?_; refine Se.toL rfl (Se.lda (o := ⟨some 19, _, _, _, _, _⟩) (n := 7) hs rfl rfl ((Reads.blk 0 rfl).at 0) (by kernel_rfl) (by kernel_rfl) (by rw [List.length_drop, SL.out]; decide) ?_)))
    rw [R.out] at hs
    refine Se.ret hs [.agg xs.toArray, .bool true] rfl ⟨Se.resRow rfl (Reads.blk 1 rfl) (by kernel_rfl) (by rw [XL.out]; kernel_rfl), rfl, trivial⟩ (by simp) rfl ?_
    exact ⟨rfl, hs.drop.drop⟩
  · have C : Hid (S[7]? = some (.int .i64 128)) := Lib.hid (SH.out 1 (by omega))
    obtain rfl : b = true := by rw [← HB.out]; rfl
    have R : Hid ((S.drop 7).take 7 = xs) := Lib.hid ((SA.out 1 (by omega)).trans HX.out)
    go_enter Try.func25, Try.ntmps25
    go_wp2_with (first | ((with_reducible refine Se.isL (o := ⟨some 2, _, _, _, _, _⟩) ?_); (refine Se.toL rfl (Se.al (o := ⟨some 2, _, _, _, _, _⟩) hs rfl (ZY.out) ?_); clear hs; rintro w g2 - hs)) | ((with_reducible refine Se.isL (o := ⟨some 4, _, _, _, _, _⟩) ?_); (refine Se.toL rfl (Se.al (o := ⟨some 4, _, _, _, _, _⟩) hs rfl (HZ.out) ?_); clear hs; rintro w g4 - hs)) | ((with_reducible refine Se.isL (o := ⟨none, Op.store 81 _ _, _, _, _, _⟩) ?_); (refine Se.toL rfl (Se.sow 0 hs rfl rfl rfl rfl (SO.out) ((by rw [SL.out]; kernel_rfl)) ((by rw [SL.out, ZL.out])) ?_); clear hs; intro w hs; try simp only [List.set_cons_zero] at hs)) | ((with_reducible refine Se.isL (o := ⟨some 13, _, _, _, _, _⟩) ?_); (refine Se.toL rfl (Se.ld (o := ⟨some 13, _, _, _, _, _⟩) hs rfl rfl (Cell.blk 0 rfl C.out) (by kernel_rfl) ?_))) | ((with_reducible refine Se.isL (o := ⟨none, Op.store 57 _ _, _, _, _, _⟩) ?_); (refine Se.toL rfl (Se.sow 1 hs rfl rfl rfl rfl ((by rw [R.out]; exact XO.out)) ((by rw [R.out, XL.out]; kernel_rfl)) ((by rw [R.out, XL.out, YL.out])) ?_); clear hs; intro w hs; try simp only [List.set_cons_zero, List.set_cons_succ] at hs)) | (go_at_call 54; refine Calls.mono (shapes_st hs HS.out) ?_; clear hs; rintro e w ⟨rfl, hs⟩) | (with_reducible refine Se.isL (o := ⟨some 19, _, _, _, _, _⟩) ?_; refine Se.toL rfl (Se.lda (o := ⟨some 19, _, _, _, _, _⟩) (n := 7) hs rfl rfl ((Reads.blk 0 rfl).at 7) (by kernel_rfl) (by kernel_rfl) (by rw [List.length_drop, SL.out]; decide) ?_)))
    rw [R.out] at hs
    refine Se.ret hs [.agg xs.toArray, .bool true] rfl ⟨Se.resRow rfl (Reads.blk 1 rfl) (by kernel_rfl) (by rw [XL.out]; kernel_rfl), rfl, trivial⟩ (by simp) rfl ?_
    exact ⟨rfl, hs.drop.drop⟩
  · have C : Hid (S[14]? = some (.int .i64 24)) := Lib.hid (SH.out 2 (by omega))
    obtain rfl : b = true := by rw [← HB.out]; rfl
    have R : Hid ((S.drop 14).take 7 = xs) := Lib.hid ((SA.out 2 (by omega)).trans HX.out)
    go_enter Try.func25, Try.ntmps25
    go_wp2_with (first | ((with_reducible refine Se.isL (o := ⟨some 2, _, _, _, _, _⟩) ?_); (refine Se.toL rfl (Se.al (o := ⟨some 2, _, _, _, _, _⟩) hs rfl (ZY.out) ?_); clear hs; rintro w g2 - hs)) | ((with_reducible refine Se.isL (o := ⟨some 4, _, _, _, _, _⟩) ?_); (refine Se.toL rfl (Se.al (o := ⟨some 4, _, _, _, _, _⟩) hs rfl (HZ.out) ?_); clear hs; rintro w g4 - hs)) | ((with_reducible refine Se.isL (o := ⟨none, Op.store 81 _ _, _, _, _, _⟩) ?_); (refine Se.toL rfl (Se.sow 0 hs rfl rfl rfl rfl (SO.out) ((by rw [SL.out]; kernel_rfl)) ((by rw [SL.out, ZL.out])) ?_); clear hs; intro w hs; try simp only [List.set_cons_zero] at hs)) | ((with_reducible refine Se.isL (o := ⟨some 13, _, _, _, _, _⟩) ?_); (refine Se.toL rfl (Se.ld (o := ⟨some 13, _, _, _, _, _⟩) hs rfl rfl (Cell.blk 0 rfl C.out) (by kernel_rfl) ?_))) | ((with_reducible refine Se.isL (o := ⟨none, Op.store 57 _ _, _, _, _, _⟩) ?_); (refine Se.toL rfl (Se.sow 1 hs rfl rfl rfl rfl ((by rw [R.out]; exact XO.out)) ((by rw [R.out, XL.out]; kernel_rfl)) ((by rw [R.out, XL.out, YL.out])) ?_); clear hs; intro w hs; try simp only [List.set_cons_zero, List.set_cons_succ] at hs)) | (go_at_call 54; refine Calls.mono (shapes_st hs HS.out) ?_; clear hs; rintro e w ⟨rfl, hs⟩) | (with_reducible refine Se.isL (o := ⟨some 19, _, _, _, _, _⟩) ?_; refine Se.toL rfl (Se.lda (o := ⟨some 19, _, _, _, _, _⟩) (n := 7) hs rfl rfl ((Reads.blk 0 rfl).at 14) (by kernel_rfl) (by kernel_rfl) (by rw [List.length_drop, SL.out]; decide) ?_)))
    rw [R.out] at hs
    refine Se.ret hs [.agg xs.toArray, .bool true] rfl ⟨Se.resRow rfl (Reads.blk 1 rfl) (by kernel_rfl) (by rw [XL.out]; kernel_rfl), rfl, trivial⟩ (by simp) rfl ?_
    exact ⟨rfl, hs.drop.drop⟩
  · have C : Hid (S[21]? = some (.int .i64 24)) := Lib.hid (SH.out 3 (by omega))
    obtain rfl : b = true := by rw [← HB.out]; rfl
    have R : Hid ((S.drop 21).take 7 = xs) := Lib.hid ((SA.out 3 (by omega)).trans HX.out)
    go_enter Try.func25, Try.ntmps25
    go_wp2_with (first | ((with_reducible refine Se.isL (o := ⟨some 2, _, _, _, _, _⟩) ?_); (refine Se.toL rfl (Se.al (o := ⟨some 2, _, _, _, _, _⟩) hs rfl (ZY.out) ?_); clear hs; rintro w g2 - hs)) | ((with_reducible refine Se.isL (o := ⟨some 4, _, _, _, _, _⟩) ?_); (refine Se.toL rfl (Se.al (o := ⟨some 4, _, _, _, _, _⟩) hs rfl (HZ.out) ?_); clear hs; rintro w g4 - hs)) | ((with_reducible refine Se.isL (o := ⟨none, Op.store 81 _ _, _, _, _, _⟩) ?_); (refine Se.toL rfl (Se.sow 0 hs rfl rfl rfl rfl (SO.out) ((by rw [SL.out]; kernel_rfl)) ((by rw [SL.out, ZL.out])) ?_); clear hs; intro w hs; try simp only [List.set_cons_zero] at hs)) | ((with_reducible refine Se.isL (o := ⟨some 13, _, _, _, _, _⟩) ?_); (refine Se.toL rfl (Se.ld (o := ⟨some 13, _, _, _, _, _⟩) hs rfl rfl (Cell.blk 0 rfl C.out) (by kernel_rfl) ?_))) | ((with_reducible refine Se.isL (o := ⟨none, Op.store 57 _ _, _, _, _, _⟩) ?_); (refine Se.toL rfl (Se.sow 1 hs rfl rfl rfl rfl ((by rw [R.out]; exact XO.out)) ((by rw [R.out, XL.out]; kernel_rfl)) ((by rw [R.out, XL.out, YL.out])) ?_); clear hs; intro w hs; try simp only [List.set_cons_zero, List.set_cons_succ] at hs)) | (go_at_call 54; refine Calls.mono (shapes_st hs HS.out) ?_; clear hs; rintro e w ⟨rfl, hs⟩) | (with_reducible refine Se.isL (o := ⟨some 19, _, _, _, _, _⟩) ?_; refine Se.toL rfl (Se.lda (o := ⟨some 19, _, _, _, _, _⟩) (n := 7) hs rfl rfl ((Reads.blk 0 rfl).at 21) (by kernel_rfl) (by kernel_rfl) (by rw [List.length_drop, SL.out]; decide) ?_)))
    rw [R.out] at hs
    refine Se.ret hs [.agg xs.toArray, .bool true] rfl ⟨Se.resRow rfl (Reads.blk 1 rfl) (by kernel_rfl) (by rw [XL.out]; kernel_rfl), rfl, trivial⟩ (by simp) rfl ?_
    exact ⟨rfl, hs.drop.drop⟩
  · have C : Hid (S[28]? = some (.int .i64 72)) := Lib.hid (SH.out 4 (by omega))
    obtain rfl : b = true := by rw [← HB.out]; rfl
    have R : Hid ((S.drop 28).take 7 = xs) := Lib.hid ((SA.out 4 (by omega)).trans HX.out)
    go_enter Try.func25, Try.ntmps25
    go_wp2_with (first | ((with_reducible refine Se.isL (o := ⟨some 2, _, _, _, _, _⟩) ?_); (refine Se.toL rfl (Se.al (o := ⟨some 2, _, _, _, _, _⟩) hs rfl (ZY.out) ?_); clear hs; rintro w g2 - hs)) | ((with_reducible refine Se.isL (o := ⟨some 4, _, _, _, _, _⟩) ?_); (refine Se.toL rfl (Se.al (o := ⟨some 4, _, _, _, _, _⟩) hs rfl (HZ.out) ?_); clear hs; rintro w g4 - hs)) | ((with_reducible refine Se.isL (o := ⟨none, Op.store 81 _ _, _, _, _, _⟩) ?_); (refine Se.toL rfl (Se.sow 0 hs rfl rfl rfl rfl (SO.out) ((by rw [SL.out]; kernel_rfl)) ((by rw [SL.out, ZL.out])) ?_); clear hs; intro w hs; try simp only [List.set_cons_zero] at hs)) | ((with_reducible refine Se.isL (o := ⟨some 13, _, _, _, _, _⟩) ?_); (refine Se.toL rfl (Se.ld (o := ⟨some 13, _, _, _, _, _⟩) hs rfl rfl (Cell.blk 0 rfl C.out) (by kernel_rfl) ?_))) | ((with_reducible refine Se.isL (o := ⟨none, Op.store 57 _ _, _, _, _, _⟩) ?_); (refine Se.toL rfl (Se.sow 1 hs rfl rfl rfl rfl ((by rw [R.out]; exact XO.out)) ((by rw [R.out, XL.out]; kernel_rfl)) ((by rw [R.out, XL.out, YL.out])) ?_); clear hs; intro w hs; try simp only [List.set_cons_zero, List.set_cons_succ] at hs)) | (go_at_call 54; refine Calls.mono (shapes_st hs HS.out) ?_; clear hs; rintro e w ⟨rfl, hs⟩) | (with_reducible refine Se.isL (o := ⟨some 19, _, _, _, _, _⟩) ?_; refine Se.toL rfl (Se.lda (o := ⟨some 19, _, _, _, _, _⟩) (n := 7) hs rfl rfl ((Reads.blk 0 rfl).at 28) (by kernel_rfl) (by kernel_rfl) (by rw [List.length_drop, SL.out]; decide) ?_)))
    rw [R.out] at hs
    refine Se.ret hs [.agg xs.toArray, .bool true] rfl ⟨Se.resRow rfl (Reads.blk 1 rfl) (by kernel_rfl) (by rw [XL.out]; kernel_rfl), rfl, trivial⟩ (by simp) rfl ?_
    exact ⟨rfl, hs.drop.drop⟩
  · have C : Hid (S[35]? = some (.int .i64 24)) := Lib.hid (SH.out 5 (by omega))
    obtain rfl : b = true := by rw [← HB.out]; rfl
    have R : Hid ((S.drop 35).take 7 = xs) := Lib.hid ((SA.out 5 (by omega)).trans HX.out)
    go_enter Try.func25, Try.ntmps25
    go_wp2_with (first | ((with_reducible refine Se.isL (o := ⟨some 2, _, _, _, _, _⟩) ?_); (refine Se.toL rfl (Se.al (o := ⟨some 2, _, _, _, _, _⟩) hs rfl (ZY.out) ?_); clear hs; rintro w g2 - hs)) | ((with_reducible refine Se.isL (o := ⟨some 4, _, _, _, _, _⟩) ?_); (refine Se.toL rfl (Se.al (o := ⟨some 4, _, _, _, _, _⟩) hs rfl (HZ.out) ?_); clear hs; rintro w g4 - hs)) | ((with_reducible refine Se.isL (o := ⟨none, Op.store 81 _ _, _, _, _, _⟩) ?_); (refine Se.toL rfl (Se.sow 0 hs rfl rfl rfl rfl (SO.out) ((by rw [SL.out]; kernel_rfl)) ((by rw [SL.out, ZL.out])) ?_); clear hs; intro w hs; try simp only [List.set_cons_zero] at hs)) | ((with_reducible refine Se.isL (o := ⟨some 13, _, _, _, _, _⟩) ?_); (refine Se.toL rfl (Se.ld (o := ⟨some 13, _, _, _, _, _⟩) hs rfl rfl (Cell.blk 0 rfl C.out) (by kernel_rfl) ?_))) | ((with_reducible refine Se.isL (o := ⟨none, Op.store 57 _ _, _, _, _, _⟩) ?_); (refine Se.toL rfl (Se.sow 1 hs rfl rfl rfl rfl ((by rw [R.out]; exact XO.out)) ((by rw [R.out, XL.out]; kernel_rfl)) ((by rw [R.out, XL.out, YL.out])) ?_); clear hs; intro w hs; try simp only [List.set_cons_zero, List.set_cons_succ] at hs)) | (go_at_call 54; refine Calls.mono (shapes_st hs HS.out) ?_; clear hs; rintro e w ⟨rfl, hs⟩) | (with_reducible refine Se.isL (o := ⟨some 19, _, _, _, _, _⟩) ?_; refine Se.toL rfl (Se.lda (o := ⟨some 19, _, _, _, _, _⟩) (n := 7) hs rfl rfl ((Reads.blk 0 rfl).at 35) (by kernel_rfl) (by kernel_rfl) (by rw [List.length_drop, SL.out]; decide) ?_)))
    rw [R.out] at hs
    refine Se.ret hs [.agg xs.toArray, .bool true] rfl ⟨Se.resRow rfl (Reads.blk 1 rfl) (by kernel_rfl) (by rw [XL.out]; kernel_rfl), rfl, trivial⟩ (by simp) rfl ?_
    exact ⟨rfl, hs.drop.drop⟩
  · have C : Hid (S[42]? = some (.int .i64 24)) := Lib.hid (SH.out 6 (by omega))
    obtain rfl : b = true := by rw [← HB.out]; rfl
    have R : Hid ((S.drop 42).take 7 = xs) := Lib.hid ((SA.out 6 (by omega)).trans HX.out)
    go_enter Try.func25, Try.ntmps25
    go_wp2_with (first | ((with_reducible refine Se.isL (o := ⟨some 2, _, _, _, _, _⟩) ?_); (refine Se.toL rfl (Se.al (o := ⟨some 2, _, _, _, _, _⟩) hs rfl (ZY.out) ?_); clear hs; rintro w g2 - hs)) | ((with_reducible refine Se.isL (o := ⟨some 4, _, _, _, _, _⟩) ?_); (refine Se.toL rfl (Se.al (o := ⟨some 4, _, _, _, _, _⟩) hs rfl (HZ.out) ?_); clear hs; rintro w g4 - hs)) | ((with_reducible refine Se.isL (o := ⟨none, Op.store 81 _ _, _, _, _, _⟩) ?_); (refine Se.toL rfl (Se.sow 0 hs rfl rfl rfl rfl (SO.out) ((by rw [SL.out]; kernel_rfl)) ((by rw [SL.out, ZL.out])) ?_); clear hs; intro w hs; try simp only [List.set_cons_zero] at hs)) | ((with_reducible refine Se.isL (o := ⟨some 13, _, _, _, _, _⟩) ?_); (refine Se.toL rfl (Se.ld (o := ⟨some 13, _, _, _, _, _⟩) hs rfl rfl (Cell.blk 0 rfl C.out) (by kernel_rfl) ?_))) | ((with_reducible refine Se.isL (o := ⟨none, Op.store 57 _ _, _, _, _, _⟩) ?_); (refine Se.toL rfl (Se.sow 1 hs rfl rfl rfl rfl ((by rw [R.out]; exact XO.out)) ((by rw [R.out, XL.out]; kernel_rfl)) ((by rw [R.out, XL.out, YL.out])) ?_); clear hs; intro w hs; try simp only [List.set_cons_zero, List.set_cons_succ] at hs)) | (go_at_call 54; refine Calls.mono (shapes_st hs HS.out) ?_; clear hs; rintro e w ⟨rfl, hs⟩) | (with_reducible refine Se.isL (o := ⟨some 19, _, _, _, _, _⟩) ?_; refine Se.toL rfl (Se.lda (o := ⟨some 19, _, _, _, _, _⟩) (n := 7) hs rfl rfl ((Reads.blk 0 rfl).at 42) (by kernel_rfl) (by kernel_rfl) (by rw [List.length_drop, SL.out]; decide) ?_)))
    rw [R.out] at hs
    refine Se.ret hs [.agg xs.toArray, .bool true] rfl ⟨Se.resRow rfl (Reads.blk 1 rfl) (by kernel_rfl) (by rw [XL.out]; kernel_rfl), rfl, trivial⟩ (by simp) rfl ?_
    exact ⟨rfl, hs.drop.drop⟩
  · have C : Hid (S[49]? = some (.int .i64 24)) := Lib.hid (SH.out 7 (by omega))
    obtain rfl : b = true := by rw [← HB.out]; rfl
    have R : Hid ((S.drop 49).take 7 = xs) := Lib.hid ((SA.out 7 (by omega)).trans HX.out)
    go_enter Try.func25, Try.ntmps25
    go_wp2_with (first | ((with_reducible refine Se.isL (o := ⟨some 2, _, _, _, _, _⟩) ?_); (refine Se.toL rfl (Se.al (o := ⟨some 2, _, _, _, _, _⟩) hs rfl (ZY.out) ?_); clear hs; rintro w g2 - hs)) | ((with_reducible refine Se.isL (o := ⟨some 4, _, _, _, _, _⟩) ?_); (refine Se.toL rfl (Se.al (o := ⟨some 4, _, _, _, _, _⟩) hs rfl (HZ.out) ?_); clear hs; rintro w g4 - hs)) | ((with_reducible refine Se.isL (o := ⟨none, Op.store 81 _ _, _, _, _, _⟩) ?_); (refine Se.toL rfl (Se.sow 0 hs rfl rfl rfl rfl (SO.out) ((by rw [SL.out]; kernel_rfl)) ((by rw [SL.out, ZL.out])) ?_); clear hs; intro w hs; try simp only [List.set_cons_zero] at hs)) | ((with_reducible refine Se.isL (o := ⟨some 13, _, _, _, _, _⟩) ?_); (refine Se.toL rfl (Se.ld (o := ⟨some 13, _, _, _, _, _⟩) hs rfl rfl (Cell.blk 0 rfl C.out) (by kernel_rfl) ?_))) | ((with_reducible refine Se.isL (o := ⟨none, Op.store 57 _ _, _, _, _, _⟩) ?_); (refine Se.toL rfl (Se.sow 1 hs rfl rfl rfl rfl ((by rw [R.out]; exact XO.out)) ((by rw [R.out, XL.out]; kernel_rfl)) ((by rw [R.out, XL.out, YL.out])) ?_); clear hs; intro w hs; try simp only [List.set_cons_zero, List.set_cons_succ] at hs)) | (go_at_call 54; refine Calls.mono (shapes_st hs HS.out) ?_; clear hs; rintro e w ⟨rfl, hs⟩) | (with_reducible refine Se.isL (o := ⟨some 19, _, _, _, _, _⟩) ?_; refine Se.toL rfl (Se.lda (o := ⟨some 19, _, _, _, _, _⟩) (n := 7) hs rfl rfl ((Reads.blk 0 rfl).at 49) (by kernel_rfl) (by kernel_rfl) (by rw [List.length_drop, SL.out]; decide) ?_)))
    rw [R.out] at hs
    refine Se.ret hs [.agg xs.toArray, .bool true] rfl ⟨Se.resRow rfl (Reads.blk 1 rfl) (by kernel_rfl) (by rw [XL.out]; kernel_rfl), rfl, trivial⟩ (by simp) rfl ?_
    exact ⟨rfl, hs.drop.drop⟩
  · have C : Hid (S[63]? = some (.int .i64 24)) := Lib.hid (SH.out 9 (by omega))
    obtain rfl : b = true := by rw [← HB.out]; rfl
    have R : Hid ((S.drop 63).take 7 = xs) := Lib.hid ((SA.out 9 (by omega)).trans HX.out)
    go_enter Try.func25, Try.ntmps25
    go_wp2_with (first | ((with_reducible refine Se.isL (o := ⟨some 2, _, _, _, _, _⟩) ?_); (refine Se.toL rfl (Se.al (o := ⟨some 2, _, _, _, _, _⟩) hs rfl (ZY.out) ?_); clear hs; rintro w g2 - hs)) | ((with_reducible refine Se.isL (o := ⟨some 4, _, _, _, _, _⟩) ?_); (refine Se.toL rfl (Se.al (o := ⟨some 4, _, _, _, _, _⟩) hs rfl (HZ.out) ?_); clear hs; rintro w g4 - hs)) | ((with_reducible refine Se.isL (o := ⟨none, Op.store 81 _ _, _, _, _, _⟩) ?_); (refine Se.toL rfl (Se.sow 0 hs rfl rfl rfl rfl (SO.out) ((by rw [SL.out]; kernel_rfl)) ((by rw [SL.out, ZL.out])) ?_); clear hs; intro w hs; try simp only [List.set_cons_zero] at hs)) | ((with_reducible refine Se.isL (o := ⟨some 13, _, _, _, _, _⟩) ?_); (refine Se.toL rfl (Se.ld (o := ⟨some 13, _, _, _, _, _⟩) hs rfl rfl (Cell.blk 0 rfl C.out) (by kernel_rfl) ?_))) | ((with_reducible refine Se.isL (o := ⟨none, Op.store 57 _ _, _, _, _, _⟩) ?_); (refine Se.toL rfl (Se.sow 1 hs rfl rfl rfl rfl ((by rw [R.out]; exact XO.out)) ((by rw [R.out, XL.out]; kernel_rfl)) ((by rw [R.out, XL.out, YL.out])) ?_); clear hs; intro w hs; try simp only [List.set_cons_zero, List.set_cons_succ] at hs)) | (go_at_call 54; refine Calls.mono (shapes_st hs HS.out) ?_; clear hs; rintro e w ⟨rfl, hs⟩) | (with_reducible refine Se.isL (o := ⟨some 19, _, _, _, _, _⟩) ?_; refine Se.toL rfl (Se.lda (o := ⟨some 19, _, _, _, _, _⟩) (n := 7) hs rfl rfl ((Reads.blk 0 rfl).at 63) (by kernel_rfl) (by kernel_rfl) (by rw [List.length_drop, SL.out]; decide) ?_)))
    rw [R.out] at hs
    refine Se.ret hs [.agg xs.toArray, .bool true] rfl ⟨Se.resRow rfl (Reads.blk 1 rfl) (by kernel_rfl) (by rw [XL.out]; kernel_rfl), rfl, trivial⟩ (by simp) rfl ?_
    exact ⟨rfl, hs.drop.drop⟩
  · have C : Hid (S[56]? = some (.int .i64 0)) := Lib.hid (SH.out 8 (by omega))
    obtain rfl : b = false := by rw [← HB.out]; rfl
    have HXY : Hid (Y = xs) := Lib.hid (HY.out.trans HX.out)
    have B : Hid (∀ w : World, (Instr.build 57 #[]).run Try.prog w = .ok (.agg xs.toArray) w) := Lib.hid (by rw [← HX.out]; exact bshz)
    go_enter Try.func25, Try.ntmps25
    go_wp2_with (first | ((with_reducible refine Se.isL (o := ⟨some 2, _, _, _, _, _⟩) ?_); (refine Se.toL rfl (Se.al (o := ⟨some 2, _, _, _, _, _⟩) hs rfl (ZY.out) ?_); clear hs; rintro w g2 - hs)) | ((with_reducible refine Se.isL (o := ⟨some 4, _, _, _, _, _⟩) ?_); (refine Se.toL rfl (Se.al (o := ⟨some 4, _, _, _, _, _⟩) hs rfl (HZ.out) ?_); clear hs; rintro w g4 - hs)) | ((with_reducible refine Se.isL (o := ⟨none, Op.store 81 _ _, _, _, _, _⟩) ?_); (refine Se.toL rfl (Se.sow 0 hs rfl rfl rfl rfl (SO.out) ((by rw [SL.out]; kernel_rfl)) ((by rw [SL.out, ZL.out])) ?_); clear hs; intro w hs; try simp only [List.set_cons_zero] at hs)) | ((with_reducible refine Se.isL (o := ⟨some 13, _, _, _, _, _⟩) ?_); (refine Se.toL rfl (Se.ld (o := ⟨some 13, _, _, _, _, _⟩) hs rfl rfl (Cell.blk 0 rfl C.out) (by kernel_rfl) ?_))) | ((with_reducible refine Se.isL (o := ⟨some 16, _, _, _, _, _⟩) ?_); (refine Se.toL rfl (Se.bd (o := ⟨some 16, _, _, _, _, _⟩) rfl rfl (B.out _) ?_))) | ((with_reducible refine Se.isL (o := ⟨none, Op.store 57 _ _, _, _, _, _⟩) ?_); (refine Se.toL rfl (Se.sow 1 hs rfl rfl rfl rfl (XO.out) ((by rw [XL.out]; kernel_rfl)) ((by rw [XL.out, YL.out])) ?_); clear hs; intro w hs; try simp only [List.set_cons_zero, List.set_cons_succ] at hs)) | (go_at_call 54; refine Calls.mono (shapes_st hs HS.out) ?_; clear hs; rintro e w ⟨rfl, hs⟩))
    refine Se.ret hs [.agg xs.toArray, .bool false] rfl ⟨Se.resRow rfl (Reads.blk 1 rfl) (by kernel_rfl) (by rw [XL.out]; kernel_rfl), rfl, trivial⟩ (by simp) rfl ?_
    exact ⟨rfl, hs.drop.drop⟩
  · obtain rfl : b = false := by rw [← HB.out, hdr_none k (.inr h10)]; rfl
    have HXY : Hid (shV 8 = xs) := Lib.hid (by rw [← HX.out, shV_none k (hdr_none k (.inr h10))])
    have B : Hid (∀ w : World, (Instr.build 57 #[]).run Try.prog w = .ok (.agg xs.toArray) w) := Lib.hid (by rw [← HXY.out]; exact bshz)
    have hw : wrap64 (k : Int) = k := by rw [← IntWalk.i64_left]; exact IntWalk.i64_in _ (by omega)
    have h10b : decide ((10 : Int) ≤ (k : Int)) = true := by simp; omega
    go_enter Try.func25, Try.ntmps25
    go_wp2_with (first | ((with_reducible refine Se.isL (o := ⟨some 2, _, _, _, _, _⟩) ?_); (refine Se.toL rfl (Se.al (o := ⟨some 2, _, _, _, _, _⟩) hs rfl (ZY.out) ?_); clear hs; rintro w g2 - hs)) | ((with_reducible refine Se.isL (o := ⟨some 4, _, _, _, _, _⟩) ?_); (refine Se.toL rfl (Se.al (o := ⟨some 4, _, _, _, _, _⟩) hs rfl (HZ.out) ?_); clear hs; rintro w g4 - hs)) | ((with_reducible refine Se.isL (o := ⟨none, Op.store 81 _ _, _, _, _, _⟩) ?_); (refine Se.toL rfl (Se.sow 0 hs rfl rfl rfl rfl (SO.out) ((by rw [SL.out]; kernel_rfl)) ((by rw [SL.out, ZL.out])) ?_); clear hs; intro w hs; try simp only [List.set_cons_zero] at hs)) | ((with_reducible refine Se.isL (o := ⟨some 16, _, _, _, _, _⟩) ?_); (refine Se.toL rfl (Se.bd (o := ⟨some 16, _, _, _, _, _⟩) rfl rfl (B.out _) ?_))) | ((with_reducible refine Se.isL (o := ⟨none, Op.store 57 _ _, _, _, _, _⟩) ?_); (refine Se.toL rfl (Se.sow 1 hs rfl rfl rfl rfl (XO.out) ((by rw [XL.out]; kernel_rfl)) ((by rw [XL.out, YL.out])) ?_); clear hs; intro w hs; try simp only [List.set_cons_zero, List.set_cons_succ] at hs)) | (go_at_call 54; refine Calls.mono (shapes_st hs HS.out) ?_; clear hs; rintro e w ⟨rfl, hs⟩))
    refine Se.ret hs [.agg xs.toArray, .bool false] rfl ⟨Se.resRow rfl (Reads.blk 1 rfl) (by kernel_rfl) (by rw [XL.out]; kernel_rfl), rfl, trivial⟩ (by simp) rfl ?_
    exact ⟨rfl, hs.drop.drop⟩
set_option maxRecDepth 100000 in
set_option maxHeartbeats 4000000 in
theorem digests_st (hs : St w0 X L w) (k : Nat) (f : Fm) (data : Bool) {h d : Nat} (hh : hsum k f = h) (hd : dsum k f data = d) : Calls Try.prog 26 #[.int .u8 k, fv f, .bool data] w fun e w' => e = .returned (.tuple #[iv h, iv d]) ∧ St w0 X L w' := by
  obtain ⟨hdb, ddb, al⟩ := f
  unfold fv
  dsimp only
  have HH := Lib.hid hh
  have HD := Lib.hid hd
  by_cases h3 : k ≤ 3
  · have P : Hid (∀ w : World, Calls Try.prog 55 #[.int .u8 k] w fun e w' => e = .returned (.bool true) ∧ w' = w) := Lib.hid (fun w => by have := plain_any k w; rwa [decide_eq_true h3] at this)
    obtain rfl : h = 0 := by rw [← hh]; unfold hsum; rw [if_neg (by omega)]
    obtain rfl : d = 0 := by rw [← hd]; unfold dsum; rw [if_neg (by omega)]
    clear hh hd h3
    go_enter Try.func26, Try.ntmps26
    go_wp2_with (first | ((first | with_reducible refine Se.ab hs ?_ | with_reducible refine Se.abc hs ?_); clear hs; (first | (generalize w.heap.size = g4; intro w hs))) | (go_at_call 55; refine Calls.mono (P.out _) ?_; rintro e w' ⟨rfl, rfl⟩))
    go_ret2
    exact ⟨rfl, hs.drop⟩
  · have P : Hid (∀ w : World, Calls Try.prog 55 #[.int .u8 k] w fun e w' => e = .returned (.bool false) ∧ w' = w) := Lib.hid (fun w => by have := plain_any k w; rwa [decide_eq_false h3] at this)
    have eh : h = if hdb = true then 4 else 0 := by rw [← hh]; unfold hsum; simp [show 3 < k by omega]
    have ed : d = if ddb = true ∧ data = true then 4 else 0 := by rw [← hd]; unfold dsum; simp [show 3 < k by omega]
    clear hh hd h3 HH HD
    cases hdb <;> cases ddb <;> cases data <;> simp only [Bool.false_eq_true, if_true, if_false, and_true, and_false, and_self, true_and, false_and] at eh ed <;> subst eh ed
    all_goals
      go_enter Try.func26, Try.ntmps26
      go_wp2_with (first | ((with_reducible refine Se.isL (o := ⟨some 11, _, _, _, _, _⟩) ?_); (refine Se.toL rfl (Se.ld (o := ⟨some 11, _, _, _, _, _⟩) hs rfl rfl (Cell.blk 0 rfl rfl) (by kernel_rfl) ?_))) | ((with_reducible refine Se.isL (o := ⟨some 13, _, _, _, _, _⟩) ?_); (refine Se.toL rfl (Se.ld (o := ⟨some 13, _, _, _, _, _⟩) hs rfl rfl (Cell.blk 0 rfl rfl) (by kernel_rfl) ?_))) | ((first | with_reducible refine Se.ab hs ?_ | with_reducible refine Se.abc hs ?_); clear hs; (first | (generalize w.heap.size = g4; intro w hs))) | (go_at_call 55; refine Calls.mono (P.out _) ?_; rintro e w' ⟨rfl, rfl⟩))
      go_ret2
      exact ⟨rfl, hs.drop⟩
end Pd
end Go.Proofs.Ytgpbmohfgjmpkaa

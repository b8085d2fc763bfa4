/- The law's own helpers: the first and the last word of a hash; the examples of the chapter. -/
import Derived.Test.YtehfogkjhlfeoaaShaRHm
import Derived.Test.YtehfogkjhlfeoaaShaLit
namespace Go.Proofs.Ytehfogkjhlfeoaa
open Go Go.RowKit
open Se Li
namespace Sha
open Bv (n8 n16 n32 n64)
attribute [local go_sem ↓] Bv.or_n32 Bv.shl_n32
attribute [local go_sem] Bv.of_n32 Bv.wrap_n32_of Bv.of32_n8
def w4 (a b c d : BitVec 8) : BitVec 32 := a.setWidth 32 <<< 24 ||| b.setWidth 32 <<< 16 ||| c.setWidth 32 <<< 8 ||| d.setWidth 32
set_option maxHeartbeats 2000000 in
theorem is_st {w0 w : World} {X : List Nat} {L : List At} (hs : St w0 X L w) (R : List (BitVec 8)) (hl : R.length = 32) {RV : List Value} (hR : RV = R.map v8) {a b : Int}
    (ha : n32 (w4 (R.getD 0 0) (R.getD 1 0) (R.getD 2 0) (R.getD 3 0)) = a) (hb : n32 (w4 (R.getD 28 0) (R.getD 29 0) (R.getD 30 0) (R.getD 31 0)) = b) :
    Calls Try.prog 25 #[.agg RV.toArray, .int .u32 a, .int .u32 b] w fun e w' => e = .returned (.bool true) ∧ St w0 X L w' := by
  have hg : ∀ i, i < 32 → RV[i]? = some (.int .u8 (n8 (R.getD i 0))) := fun i hi => by rw [hR]; simp [hl, hi, v8]
  obtain ⟨b0, h0⟩ : ∃ x, x = R.getD 0 0 := ⟨_, rfl⟩
  obtain ⟨b1, h1⟩ : ∃ x, x = R.getD 1 0 := ⟨_, rfl⟩
  obtain ⟨b2, h2⟩ : ∃ x, x = R.getD 2 0 := ⟨_, rfl⟩
  obtain ⟨b3, h3⟩ : ∃ x, x = R.getD 3 0 := ⟨_, rfl⟩
  obtain ⟨c0, k0⟩ : ∃ x, x = R.getD 28 0 := ⟨_, rfl⟩
  obtain ⟨c1, k1⟩ : ∃ x, x = R.getD 29 0 := ⟨_, rfl⟩
  obtain ⟨c2, k2⟩ : ∃ x, x = R.getD 30 0 := ⟨_, rfl⟩
  obtain ⟨c3, k3⟩ : ∃ x, x = R.getD 31 0 := ⟨_, rfl⟩
  have f0 := Lib.hid (hg 0 (by omega)); rw [← h0] at f0
  have f1 := Lib.hid (hg 1 (by omega)); rw [← h1] at f1
  have f2 := Lib.hid (hg 2 (by omega)); rw [← h2] at f2
  have f3 := Lib.hid (hg 3 (by omega)); rw [← h3] at f3
  have f28 := Lib.hid (hg 28 (by omega)); rw [← k0] at f28
  have f29 := Lib.hid (hg 29 (by omega)); rw [← k1] at f29
  have f30 := Lib.hid (hg 30 (by omega)); rw [← k2] at f30
  have f31 := Lib.hid (hg 31 (by omega)); rw [← k3] at f31
  rw [← h0, ← h1, ← h2, ← h3] at ha
  rw [← k0, ← k1, ← k2, ← k3] at hb
  unfold w4 at ha hb
  have lRV := Lib.hid (show RV.length = 32 by rw [hR, List.length_map, hl])
  clear hg hl hR h0 h1 h2 h3 k0 k1 k2 k3
  go_enter Try.func25, Try.ntmps25
  go_wp2_with (first | ((with_reducible refine Se.isL (o := ⟨some 3, _, _, _, _, _⟩) ?_); (refine Se.toL rfl (Se.bx (o := ⟨some 3, _, _, _, _, _⟩) hs rfl rfl (l := RV) rfl ?_); clear hs; rintro w g3 - hs)) | ((with_reducible refine Se.isL (o := ⟨some 10, _, _, _, _, _⟩) ?_); (refine Se.toL rfl (Se.ld (o := ⟨some 10, _, _, _, _, _⟩) hs rfl rfl ((Cell.blk 0 rfl f0.out)) (by kernel_rfl) ?_))) | ((with_reducible refine Se.isL (o := ⟨some 14, _, _, _, _, _⟩) ?_); (refine Se.toL rfl (Se.ld (o := ⟨some 14, _, _, _, _, _⟩) hs rfl rfl ((Cell.blk 0 rfl f1.out)) (by kernel_rfl) ?_))) | ((with_reducible refine Se.isL (o := ⟨some 19, _, _, _, _, _⟩) ?_); (refine Se.toL rfl (Se.ld (o := ⟨some 19, _, _, _, _, _⟩) hs rfl rfl ((Cell.blk 0 rfl f2.out)) (by kernel_rfl) ?_))) | ((with_reducible refine Se.isL (o := ⟨some 24, _, _, _, _, _⟩) ?_); (refine Se.toL rfl (Se.ld (o := ⟨some 24, _, _, _, _, _⟩) hs rfl rfl ((Cell.blk 0 rfl f3.out)) (by kernel_rfl) ?_))) | ((with_reducible refine Se.isL (o := ⟨some 28, _, _, _, _, _⟩) ?_); (refine Se.toL rfl (Se.ld (o := ⟨some 28, _, _, _, _, _⟩) hs rfl rfl ((Cell.blk 0 rfl f28.out)) (by kernel_rfl) ?_))) | ((with_reducible refine Se.isL (o := ⟨some 32, _, _, _, _, _⟩) ?_); (refine Se.toL rfl (Se.ld (o := ⟨some 32, _, _, _, _, _⟩) hs rfl rfl ((Cell.blk 0 rfl f29.out)) (by kernel_rfl) ?_))) | ((with_reducible refine Se.isL (o := ⟨some 37, _, _, _, _, _⟩) ?_); (refine Se.toL rfl (Se.ld (o := ⟨some 37, _, _, _, _, _⟩) hs rfl rfl ((Cell.blk 0 rfl f30.out)) (by kernel_rfl) ?_))) | ((with_reducible refine Se.isL (o := ⟨some 42, _, _, _, _, _⟩) ?_); (refine Se.toL rfl (Se.ld (o := ⟨some 42, _, _, _, _, _⟩) hs rfl rfl ((Cell.blk 0 rfl f31.out)) (by kernel_rfl) ?_))))
  go_ret
  refine ⟨?_, hs.drop⟩
  simp
/-- The chain with the constants as numbers. -/
def chC (M : List (BitVec 8)) : Nat → List (BitVec 32)
  | 0 => HL
  | i + 1 => stepL KL (chC M i) ((M.drop (64 * i)).take 64)
theorem chC_eq (M : List (BitVec 8)) (i : Nat) : chN M i = chC M i := by
  induction i with
  | zero => rw [chN, chC, H8_lit]
  | succ i ih => rw [chN, chC, ih, K64_lit]
def shaC (M : List (BitVec 8)) : List (BitVec 8) := dig (chC (padL M) ((padL M).length / 64))
theorem shaC_eq (M : List (BitVec 8)) : shaL M = shaC M := by unfold shaL shaC; rw [chC_eq]
def abcL : List (BitVec 8) := [97#8, 98#8, 99#8]
def jefeL : List (BitVec 8) := [74#8, 101#8, 102#8, 101#8]
def whatL : List (BitVec 8) := [119#8, 104#8, 97#8, 116#8, 32#8, 100#8, 111#8, 32#8, 121#8, 97#8, 32#8, 119#8, 97#8, 110#8, 116#8, 32#8, 102#8, 111#8, 114#8, 32#8, 110#8, 111#8, 116#8, 104#8, 105#8, 110#8, 103#8, 63#8]
def hmacC (key msg : List (BitVec 8)) : List (BitVec 8) := shaC ((key ++ List.replicate (64 - key.length) 0#8).map (· ^^^ 0x5c#8) ++ shaC ((key ++ List.replicate (64 - key.length) 0#8).map (· ^^^ 0x36#8) ++ msg))
theorem hmacC_eq (key msg : List (BitVec 8)) (h : key.length ≤ 64) : hmacL key msg = hmacC key msg := by
  unfold hmacL hmacC padK keyL
  rw [if_neg (by omega), shaC_eq, shaC_eq]
def fstW (R : List (BitVec 8)) : BitVec 32 := w4 (R.getD 0 0) (R.getD 1 0) (R.getD 2 0) (R.getD 3 0)
def lstW (R : List (BitVec 8)) : BitVec 32 := w4 (R.getD 28 0) (R.getD 29 0) (R.getD 30 0) (R.getD 31 0)
set_option maxRecDepth 100000 in
theorem ex1 : fstW (shaC []) = 3820012610#32 ∧ lstW (shaC []) = 2018687061#32 := by decide +kernel
set_option maxRecDepth 100000 in
theorem ex2 : fstW (shaC abcL) = 3128432319#32 ∧ lstW (shaC abcL) = 4060091821#32 := by decide +kernel
set_option maxRecDepth 100000 in
theorem ex3 : fstW (hmacC jefeL whatL) = 1541194054#32 ∧ lstW (hmacC jefeL whatL) = 1693202499#32 := by decide +kernel
theorem hmacL_length (key msg : List (BitVec 8)) : (hmacL key msg).length = 32 := by unfold hmacL; exact shaL_length _
end Sha
end Go.Proofs.Ytehfogkjhlfeoaa

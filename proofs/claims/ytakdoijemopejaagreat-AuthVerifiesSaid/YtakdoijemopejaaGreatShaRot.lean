/- Walks of the rotations of sha and of its reference: what each returns. No condition but bounds of the counts. -/
import Derived.Test.YtakdoijemopejaaGreatProg
import Derived.Test.YtakdoijemopejaaGreatBaseA
import Derived.BigQuiet
import Derived.Lib.Hide
import Derived.Deep.QuietTactic
set_option maxRecDepth 100000
set_option linter.unusedSimpArgs false
set_option linter.unusedVariables false
namespace Go.Proofs.YtakdoijemopejaaGreat
open Go.RowKit
namespace Sha
open Bv (n8 n16 n32 n64)
attribute [local go_sem ↓] Bv.xor_n32 Bv.and_n32 Bv.or_n32 Bv.add_n32 Bv.and_n64 Bv.sub_n64 Bv.shl_n32 Bv.shr_n32
attribute [local go_sem] Bv.of_n32 Bv.of_n64 Bv.wrap_n64_of Bv.n64_lo
theorem n64_toNat (x : BitVec 64) : (n64 x).toNat = x.toNat := by unfold n64; simp
attribute [local go_sem] n64_toNat
/-- A word rotated to the right. -/
def ror (x : BitVec 32) (n : Nat) : BitVec 32 := x >>> n ||| x <<< (32 - n)
theorem rot_num : ∀ n : Fin 32, 0 < n.val → (BitVec.ofInt 64 (-(n.val : Int)) &&& 31#64).toNat = 32 - n.val ∧ (32#64 - (BitVec.ofInt 64 (-(n.val : Int)) &&& 31#64)).toNat = n.val := by decide
set_option maxHeartbeats 400000 in
theorem rotl_any (x : BitVec 32) (k : Int) (w : World) (h1 : -32 < k) (h2 : k < 0) :
  Calls Tryz.prog 106 #[.int .u32 (n32 x), .int .i64 k] w fun e w' => e = .returned (.int .u32 (n32 (ror x (-k).toNat))) ∧ w = w' := by
 have h := rot_num ⟨(-k).toNat, by omega⟩ (by simp; omega)
 simp only [Int.toNat_of_nonneg (show 0 ≤ -k by omega), Int.neg_neg] at h
 have H := Lib.hid h
 clear h
 go_enter Tryz.func106, Tryz.ntmps106
 go_wp2
 go_ret
 refine ⟨?_, rfl⟩
 show Ending.returned (.int .u32 (n32 (x <<< (BitVec.ofInt 64 k &&& 31#64).toNat ||| x >>> (32#64 - (BitVec.ofInt 64 k &&& 31#64)).toNat))) = _
 rw [H.out.1, H.out.2, BitVec.or_comm]; rfl
/-- The exclusive or of rotations to the right. -/
def rotx (x : BitVec 32) (ks : List Nat) : BitVec 32 := ks.foldl (fun a k => a ^^^ ror x k) 0#32
theorem rotx_snoc (x : BitVec 32) (ks : List Nat) (i : Nat) (h : i < ks.length) : rotx x (ks.take (i + 1)) = rotx x (ks.take i) ^^^ ror x ks[i] := by
 unfold rotx; rw [List.take_succ_eq_append_getElem h, List.foldl_append]; rfl
set_option maxHeartbeats 400000 in
theorem rotr_any (x : BitVec 32) (ks : List Nat) (b off cap : Nat) (w : World) (hc : ∀ i (h : i < ks.length), w.cell? ⟨b, off + i, none⟩ = some (.int .i64 (ks[i] : Int)))
  (hk : ∀ k ∈ ks, 0 < k ∧ k < 32) (hl : ks.length ≤ 1000) :
  Calls Tryz.prog 101 #[.int .u32 (n32 x), .slice (some ⟨b, off, none⟩) ks.length cap] w fun e w' => e = .returned (.int .u32 (n32 (rotx x ks))) ∧ w = w' := by
 go_enter Tryz.func101, Tryz.ntmps101
 go_wp2
 go_loop [4, 6, 9] (fun t _ i => ∃ k : Nat, k ≤ ks.length ∧ i = .int .i64 k ∧ t = .int .u32 (n32 (rotx x (ks.take k)))) (fun _ _ i => ks.length - (intOf i).toNat)
 case atStart => exact ⟨0, by omega, rfl, rfl⟩
 case round =>
  obtain ⟨k, hk', rfl, rfl⟩ := hrel
  by_cases hlt : k < ks.length
  ·have hcell := hc k hlt
   have hb := hk ks[k] (List.getElem_mem hlt)
   have S := Lib.hid (rotx_snoc x ks k hlt)
   go_wp2_with (go_at_call 106; refine (rotl_any _ _ _ (by omega) (by omega)).mono ?_; rintro e w' ⟨rfl, rfl⟩)
   go_round
   case rel => exact ⟨k + 1, by omega, by go_num, by rw [S.out]⟩
   case measure => simp [intOf]; omega
  ·go_wp2
   go_ret
   refine ⟨?_, rfl⟩
   show Ending.returned (.int .u32 (n32 (rotx x (ks.take k)))) = _
   rw [List.take_of_length_le (by omega)]
theorem rotr2 (x : BitVec 32) (a b : Nat) (g cap : Nat) (w : World) (h0 : w.cell? ⟨g, 0, none⟩ = some (.int .i64 (a : Int))) (h1 : w.cell? ⟨g, 1, none⟩ = some (.int .i64 (b : Int)))
  (ha : 0 < a ∧ a < 32) (hb : 0 < b ∧ b < 32) :
  Calls Tryz.prog 101 #[.int .u32 (n32 x), .slice (some ⟨g, 0, none⟩) 2 cap] w fun e w' => e = .returned (.int .u32 (n32 (rotx x [a, b]))) ∧ w = w' :=
 rotr_any x [a, b] g 0 cap w (fun i h => by
  match i, h with
  | 0, _ => simpa using h0
  | 1, _ => simpa using h1) (by simp [ha, hb]) (by simp)
theorem rotr3 (x : BitVec 32) (a b c : Nat) (g cap : Nat) (w : World) (h0 : w.cell? ⟨g, 0, none⟩ = some (.int .i64 (a : Int))) (h1 : w.cell? ⟨g, 1, none⟩ = some (.int .i64 (b : Int)))
  (h2 : w.cell? ⟨g, 2, none⟩ = some (.int .i64 (c : Int))) (ha : 0 < a ∧ a < 32) (hb : 0 < b ∧ b < 32) (hc : 0 < c ∧ c < 32) :
  Calls Tryz.prog 101 #[.int .u32 (n32 x), .slice (some ⟨g, 0, none⟩) 3 cap] w fun e w' => e = .returned (.int .u32 (n32 (rotx x [a, b, c]))) ∧ w = w' :=
 rotr_any x [a, b, c] g 0 cap w (fun i h => by
  match i, h with
  | 0, _ => simpa using h0
  | 1, _ => simpa using h1
  | 2, _ => simpa using h2) (by simp [ha, hb, hc]) (by simp)
set_option maxHeartbeats 400000 in
theorem rrotr_any (x : BitVec 32) (n : Nat) (w : World) (h2 : n ≤ 32) :
  Calls Tryz.prog 81 #[.int .u32 (n32 x), .int .i64 n] w fun e w' => e = .returned (.int .u32 (n32 (ror x n))) ∧ ∃ m, w' = w.drewN m := by
 have h0 : (0 : Int) ≤ 32 - (n : Int) := by omega
 have h3 : (n : Int) ≤ 32 := by omega
 have h1 : (32 - (n : Int)).toNat = 32 - n := by omega
 go_enter Tryz.func81, Tryz.ntmps81
 go_wp2
 go_quiet (fail)
 go_wp2
 go_ret
 exact ⟨rfl, nq, rfl⟩
end Sha
end Go.Proofs.YtakdoijemopejaaGreat


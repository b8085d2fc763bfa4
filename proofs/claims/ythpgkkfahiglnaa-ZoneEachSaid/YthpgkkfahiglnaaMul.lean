/- math/bits.Mul64 and Mul. -/
import Derived.Test.YthpgkkfahiglnaaBaseA
import Derived.Test.YthpgkkfahiglnaaProg
import Derived.Lib.Mul64
import Derived.Deep.LoopGhost
import Derived.Deep.DeepCutAuto
import Derived.Deep.CutBlock
import Derived.Deep.Light
import Derived.Outline
import Derived.Handy
import Derived.BigQuiet
set_option maxHeartbeats 4000000
namespace Go.Proofs.Ythpgkkfahiglnaa
open Go.RowKit
namespace Mu
open Bv (n8 n16 n32 n64)
theorem mul64_val (x y : BitVec 64) :
  ((x >>> 32) * (y >>> 32) + ((x >>> 32) * (y &&& 4294967295#64) + ((x &&& 4294967295#64) * (y &&& 4294967295#64)) >>> 32) >>> 32 + ((((x >>> 32) * (y &&& 4294967295#64) + ((x &&& 4294967295#64) * (y &&& 4294967295#64)) >>> 32) &&& 4294967295#64) + (x &&& 4294967295#64) * (y >>> 32)) >>> 32).toNat = x.toNat * y.toNat / 18446744073709551616 := by
 obtain ⟨h1, h2, h3, h4⟩ := Lib.mul64_hi x.toNat y.toNat x.isLt y.isLt
 have m : ∀ z : BitVec 64, (z &&& 4294967295#64).toNat = z.toNat % 4294967296 := fun z => by
  rw [BitVec.toNat_and]; exact Nat.and_two_pow_sub_one_eq_mod z.toNat 32
 have s : ∀ z : BitVec 64, (z >>> 32).toNat = z.toNat / 4294967296 := fun z => by
  rw [BitVec.toNat_ushiftRight, Nat.shiftRight_eq_div_pow]
 have hq : x.toNat * y.toNat / 18446744073709551616 < 18446744073709551616 := by
  have := Nat.mul_lt_mul'' x.isLt y.isLt
  omega
 have b1 : x.toNat / 4294967296 * (y.toNat / 4294967296) ≤ x.toNat * y.toNat / 18446744073709551616 := by omega
 have e1 : ((x &&& 4294967295#64) * (y &&& 4294967295#64)).toNat = (x.toNat % 4294967296) * (y.toNat % 4294967296) := by
  rw [BitVec.toNat_mul, m, m]; exact Nat.mod_eq_of_lt h1
 have e2 : ((x >>> 32) * (y &&& 4294967295#64) + ((x &&& 4294967295#64) * (y &&& 4294967295#64)) >>> 32).toNat = (x.toNat / 4294967296) * (y.toNat % 4294967296) + (x.toNat % 4294967296) * (y.toNat % 4294967296) / 4294967296 := by
  rw [BitVec.toNat_add, BitVec.toNat_mul, m, s, s, e1]
  rw [Nat.mod_eq_of_lt (a := x.toNat / 4294967296 * (y.toNat % 4294967296)) (by omega)]
  exact Nat.mod_eq_of_lt h2
 generalize (x >>> 32) * (y &&& 4294967295#64) + ((x &&& 4294967295#64) * (y &&& 4294967295#64)) >>> 32 = T at e2
 have e3 : ((T &&& 4294967295#64) + (x &&& 4294967295#64) * (y >>> 32)).toNat = ((x.toNat / 4294967296) * (y.toNat % 4294967296) + (x.toNat % 4294967296) * (y.toNat % 4294967296) / 4294967296) % 4294967296 + (x.toNat % 4294967296) * (y.toNat / 4294967296) := by
  rw [BitVec.toNat_add, m, e2, BitVec.toNat_mul, m, s, Nat.mod_eq_of_lt (a := x.toNat % 4294967296 * (y.toNat / 4294967296)) (by omega)]
  exact Nat.mod_eq_of_lt h3
 have e4 : ((x >>> 32) * (y >>> 32)).toNat = x.toNat / 4294967296 * (y.toNat / 4294967296) := by
  rw [BitVec.toNat_mul, s, s]; exact Nat.mod_eq_of_lt (by omega)
 have e5 : ((x >>> 32) * (y >>> 32) + T >>> 32).toNat = x.toNat / 4294967296 * (y.toNat / 4294967296) + T.toNat / 4294967296 := by
  rw [BitVec.toNat_add, e4, s]; exact Nat.mod_eq_of_lt (by rw [e2]; omega)
 rw [BitVec.toNat_add, s, e3, e5, e2]
 rw [Nat.mod_eq_of_lt (by omega)]
 omega
attribute [local go_sem ↓] Bv.xor_n64 Bv.and_n64 Bv.or_n64 Bv.add_n64 Bv.sub_n64 Bv.mul_n64 Bv.shl_n64 Bv.shr_n64
attribute [local go_sem] Bv.of_n64
def mulHi (x y : BitVec 64) : BitVec 64 := BitVec.ofNat 64 (x.toNat * y.toNat / 18446744073709551616)
theorem mul64_any (x y : BitVec 64) (w : World) : Calls Try.prog 89 #[.int .u64 (n64 x), .int .u64 (n64 y)] w fun e w' => e = .returned (.tuple #[.int .u64 (n64 (mulHi x y)), .int .u64 (n64 (x * y))]) ∧ w = w' := by
 have v := mul64_val x y
 have V : Hid (_ = mulHi x y) := Lib.hid (BitVec.eq_of_toNat_eq (v.trans (show _ = (mulHi x y).toNat from by
  have := Nat.mul_lt_mul'' x.isLt y.isLt
  unfold mulHi; rw [BitVec.toNat_ofNat]; exact (Nat.mod_eq_of_lt (by omega)).symm)))
 clear v
 go_enter Try.func89, Try.ntmps89
 go_wp2
 go_ret2
 exact ⟨by rw [← V.out]; rfl, rfl⟩
theorem mul_one (n : Nat) (hn : n ≤ 1000000) (w : World) : Calls Try.prog 69 #[.int .u64 1, .int .u64 n] w fun e w' => e = .returned (.tuple #[.int .u64 0, .int .u64 n]) ∧ w = w' := by
 have h := Lib.hid (mul64_any 1#64 (BitVec.ofNat 64 n))
 have e1 : n64 (mulHi 1#64 (BitVec.ofNat 64 n)) = 0 := by
  unfold mulHi n64
  have : (1#64).toNat * (BitVec.ofNat 64 n).toNat / 18446744073709551616 = 0 := by
   rw [show (BitVec.ofNat 64 n).toNat = n % 2 ^ 64 from BitVec.toNat_ofNat _ _, show (1#64).toNat = 1 from rfl]; omega
  rw [this]; rfl
 have e2 : n64 (1#64 * BitVec.ofNat 64 n) = n := by
  unfold n64
  rw [BitVec.one_mul, BitVec.toNat_ofNat]; omega
 have e3 : n64 (BitVec.ofNat 64 n) = n := by unfold n64; rw [BitVec.toNat_ofNat]; omega
 have e4 : n64 1#64 = 1 := rfl
 have H := Lib.hid (show ∀ w, Calls Try.prog 89 #[.int .u64 1, .int .u64 n] w fun e w' => e = .returned (.tuple #[.int .u64 0, .int .u64 n]) ∧ w = w' from fun w => by
  have := h.out w
  rwa [e1, e2, e3, e4] at this)
 clear h e1 e2 e3 e4
 go_enter Try.func69, Try.ntmps69
 go_wp2_with (first | (go_at_call 89; refine (H.out _).mono ?_; rintro e w' ⟨rfl, rfl⟩))
 go_ret2
 exact ⟨rfl, rfl⟩
end Mu
end Go.Proofs.Ythpgkkfahiglnaa


/- Laws of the model's integer operations at words of 8, 16, 32 and 64 bits, said of BitVec. No condition. Printed by wip/bv.py. -/
import Derived.WalkKit
import Derived.WalkSpells
import Derived.WalkLawsBesides
namespace Go.Proofs.Ytgpbmohfgjmpkaa
open Go.RowKit
namespace Bv
theorem shl_nat (W : Nat) (a : Int) (n : Nat) : (a * 2 ^ min n W % ((2 ^ W : Nat) : Int)).toNat = (a % ((2 ^ W : Nat) : Int)).toNat * 2 ^ n % 2 ^ W := by
  have hp : (0 : Int) < ((2 ^ W : Nat) : Int) := by have := Nat.two_pow_pos W; omega
  have h1 : ((a % ((2 ^ W : Nat) : Int)).toNat : Int) = a % ((2 ^ W : Nat) : Int) := Int.toNat_of_nonneg (Int.emod_nonneg _ (by omega))
  have key : a * 2 ^ min n W % ((2 ^ W : Nat) : Int) = (((a % ((2 ^ W : Nat) : Int)).toNat * 2 ^ n % 2 ^ W : Nat) : Int) := by
    rw [Int.natCast_emod, Int.natCast_mul, h1, Int.natCast_pow]
    rw [Int.mul_emod (a % _), Int.emod_emod, ← Int.mul_emod]
    by_cases hn : n ≤ W
    · rw [Nat.min_eq_left hn]; rfl
    · have hn' : W ≤ n := by omega
      rw [Nat.min_eq_right hn']
      have e : n = W + (n - W) := by omega
      have z1 : a * (2:Int) ^ W % ((2 ^ W : Nat) : Int) = 0 := by
        rw [Int.natCast_pow]; exact Int.mul_emod_left _ _
      have z2 : a * ((2:Nat):Int) ^ n % ((2 ^ W : Nat) : Int) = 0 := by
        rw [e, Int.pow_add, Int.natCast_pow, ← Int.mul_assoc, Int.mul_right_comm]; exact Int.mul_emod_left _ _
      rw [Int.natCast_pow] at z1 z2 ⊢
      exact z1.trans z2.symm
  rw [key, Int.toNat_natCast]
theorem shr_nat (W x : Nat) (hx : x < 2 ^ W) (n : Nat) : (x : Int) / 2 ^ min n W = ((x / 2 ^ n : Nat) : Int) := by
  rw [Int.natCast_ediv, Int.natCast_pow]
  by_cases hn : n ≤ W
  · rw [Nat.min_eq_left hn]; rfl
  · have hn' : W ≤ n := by omega
    rw [Nat.min_eq_right hn']
    have e1 : (x : Int) / 2 ^ W = ((x / 2 ^ W : Nat) : Int) := by rw [Int.natCast_ediv, Int.natCast_pow]; rfl
    have e2 : (x : Int) / ((2:Nat):Int) ^ n = ((x / 2 ^ n : Nat) : Int) := by rw [Int.natCast_ediv, Int.natCast_pow]
    rw [e1, e2, Nat.div_eq_of_lt hx, Nat.div_eq_of_lt (Nat.lt_of_lt_of_le hx (Nat.pow_le_pow_right (by decide) hn'))]
/-- The number of a word of 8 bits. -/
def n8 (x : BitVec 8) : Int := (x.toNat : Int)
theorem n8_lo (x : BitVec 8) : 0 ≤ n8 x := by unfold n8; omega
theorem n8_hi (x : BitVec 8) : n8 x < 256 := by have := x.isLt; unfold n8; omega
theorem n8_inj {x y : BitVec 8} (h : n8 x = n8 y) : x = y := by
  unfold n8 at h; exact BitVec.eq_of_toNat_eq (by omega)
theorem of_n8 (x : BitVec 8) : BitVec.ofInt 8 (n8 x) = x := by unfold n8; simp
theorem n8_of (a : Int) : n8 (BitVec.ofInt 8 a) = a % 256 := by unfold n8; rw [BitVec.toNat_ofInt]; simp; omega
theorem wrap_n8_of (a : Int) : IntKind.u8.wrap a = n8 (BitVec.ofInt 8 a) := by
  rw [n8_of]; simp [IntKind.wrap, IntKind.bits, IntKind.signed]
theorem wrap_n8 (x : BitVec 8) : IntKind.u8.wrap (n8 x) = n8 x := by rw [wrap_n8_of, of_n8]
theorem n8_eq_iff (x y : BitVec 8) : (n8 x = n8 y) = (x = y) := propext ⟨n8_inj, fun h => by rw [h]⟩
theorem n8_beq (x y : BitVec 8) : (n8 x == n8 y) = (x == y) := by
  rw [Bool.eq_iff_iff]; simp [n8_eq_iff]
theorem n8_wf (x : BitVec 8) : (Lit.int .u8 (n8 x)).wf = true := by
  exact WalkArith.wf_u8 ⟨n8_lo x, by have := n8_hi x; omega⟩
theorem and_n8 (a b : Int) : Op.intBits .and .u8 a b = pure (.int .u8 (n8 (BitVec.ofInt 8 a &&& BitVec.ofInt 8 b))) := by
  show pure (Value.int .u8 (IntKind.u8.wrap _)) = _
  rw [← wrap_n8 (BitVec.ofInt 8 a &&& BitVec.ofInt 8 b)]; rfl
theorem or_n8 (a b : Int) : Op.intBits .or .u8 a b = pure (.int .u8 (n8 (BitVec.ofInt 8 a ||| BitVec.ofInt 8 b))) := by
  show pure (Value.int .u8 (IntKind.u8.wrap _)) = _
  rw [← wrap_n8 (BitVec.ofInt 8 a ||| BitVec.ofInt 8 b)]; rfl
theorem xor_n8 (a b : Int) : Op.intBits .xor .u8 a b = pure (.int .u8 (n8 (BitVec.ofInt 8 a ^^^ BitVec.ofInt 8 b))) := by
  show pure (Value.int .u8 (IntKind.u8.wrap _)) = _
  rw [← wrap_n8 (BitVec.ofInt 8 a ^^^ BitVec.ofInt 8 b)]; rfl
theorem add_n8 (a b : Int) : Op.intArith .add .u8 a b = pure (.int .u8 (n8 (BitVec.ofInt 8 a + BitVec.ofInt 8 b))) := by
  show pure (Value.int .u8 (IntKind.u8.wrap _)) = _
  rw [wrap_n8_of, BitVec.ofInt_add]
theorem mul_n8 (a b : Int) : Op.intArith .mul .u8 a b = pure (.int .u8 (n8 (BitVec.ofInt 8 a * BitVec.ofInt 8 b))) := by
  show pure (Value.int .u8 (IntKind.u8.wrap _)) = _
  rw [wrap_n8_of, BitVec.ofInt_mul]
theorem sub_n8 (a b : Int) : Op.intArith .sub .u8 a b = pure (.int .u8 (n8 (BitVec.ofInt 8 a - BitVec.ofInt 8 b))) := by
  show pure (Value.int .u8 (IntKind.u8.wrap _)) = _
  rw [wrap_n8_of]
  congr 3
  rw [Int.sub_eq_add_neg, BitVec.ofInt_add, BitVec.ofInt_neg, BitVec.sub_eq_add_neg]
theorem shl_n8 (a : Int) (yk : IntKind) (y : Int) (h : 0 ≤ y) : Op.shift .shl .u8 a yk y = pure (.int .u8 (n8 (BitVec.ofInt 8 a <<< y.toNat))) := by
  rw [shift_shl_any _ _ _ _ h, wrap_n8_of]
  congr 3
  apply BitVec.eq_of_toNat_eq
  rw [BitVec.toNat_shiftLeft, BitVec.toNat_ofInt, BitVec.toNat_ofInt, Nat.shiftLeft_eq]
  exact shl_nat 8 a y.toNat
theorem shr_n8 (x : BitVec 8) (yk : IntKind) (y : Int) (h : 0 ≤ y) : Op.shift .shr .u8 (n8 x) yk y = pure (.int .u8 (n8 (x >>> y.toNat))) := by
  rw [shift_shr_any _ _ _ _ h]
  congr 3
  unfold n8
  rw [BitVec.toNat_ushiftRight, Nat.shiftRight_eq_div_pow]
  exact shr_nat 8 x.toNat x.isLt y.toNat

/-- The number of a word of 16 bits. -/
def n16 (x : BitVec 16) : Int := (x.toNat : Int)
theorem n16_lo (x : BitVec 16) : 0 ≤ n16 x := by unfold n16; omega
theorem n16_hi (x : BitVec 16) : n16 x < 65536 := by have := x.isLt; unfold n16; omega
theorem n16_inj {x y : BitVec 16} (h : n16 x = n16 y) : x = y := by
  unfold n16 at h; exact BitVec.eq_of_toNat_eq (by omega)
theorem of_n16 (x : BitVec 16) : BitVec.ofInt 16 (n16 x) = x := by unfold n16; simp
theorem n16_of (a : Int) : n16 (BitVec.ofInt 16 a) = a % 65536 := by unfold n16; rw [BitVec.toNat_ofInt]; simp; omega
theorem wrap_n16_of (a : Int) : IntKind.u16.wrap a = n16 (BitVec.ofInt 16 a) := by
  rw [n16_of]; simp [IntKind.wrap, IntKind.bits, IntKind.signed]
theorem wrap_n16 (x : BitVec 16) : IntKind.u16.wrap (n16 x) = n16 x := by rw [wrap_n16_of, of_n16]
theorem n16_eq_iff (x y : BitVec 16) : (n16 x = n16 y) = (x = y) := propext ⟨n16_inj, fun h => by rw [h]⟩
theorem n16_beq (x y : BitVec 16) : (n16 x == n16 y) = (x == y) := by
  rw [Bool.eq_iff_iff]; simp [n16_eq_iff]
theorem n16_wf (x : BitVec 16) : (Lit.int .u16 (n16 x)).wf = true := by
  exact WalkArith.wf_u16 ⟨n16_lo x, by have := n16_hi x; omega⟩
theorem and_n16 (a b : Int) : Op.intBits .and .u16 a b = pure (.int .u16 (n16 (BitVec.ofInt 16 a &&& BitVec.ofInt 16 b))) := by
  show pure (Value.int .u16 (IntKind.u16.wrap _)) = _
  rw [← wrap_n16 (BitVec.ofInt 16 a &&& BitVec.ofInt 16 b)]; rfl
theorem or_n16 (a b : Int) : Op.intBits .or .u16 a b = pure (.int .u16 (n16 (BitVec.ofInt 16 a ||| BitVec.ofInt 16 b))) := by
  show pure (Value.int .u16 (IntKind.u16.wrap _)) = _
  rw [← wrap_n16 (BitVec.ofInt 16 a ||| BitVec.ofInt 16 b)]; rfl
theorem xor_n16 (a b : Int) : Op.intBits .xor .u16 a b = pure (.int .u16 (n16 (BitVec.ofInt 16 a ^^^ BitVec.ofInt 16 b))) := by
  show pure (Value.int .u16 (IntKind.u16.wrap _)) = _
  rw [← wrap_n16 (BitVec.ofInt 16 a ^^^ BitVec.ofInt 16 b)]; rfl
theorem add_n16 (a b : Int) : Op.intArith .add .u16 a b = pure (.int .u16 (n16 (BitVec.ofInt 16 a + BitVec.ofInt 16 b))) := by
  show pure (Value.int .u16 (IntKind.u16.wrap _)) = _
  rw [wrap_n16_of, BitVec.ofInt_add]
theorem mul_n16 (a b : Int) : Op.intArith .mul .u16 a b = pure (.int .u16 (n16 (BitVec.ofInt 16 a * BitVec.ofInt 16 b))) := by
  show pure (Value.int .u16 (IntKind.u16.wrap _)) = _
  rw [wrap_n16_of, BitVec.ofInt_mul]
theorem sub_n16 (a b : Int) : Op.intArith .sub .u16 a b = pure (.int .u16 (n16 (BitVec.ofInt 16 a - BitVec.ofInt 16 b))) := by
  show pure (Value.int .u16 (IntKind.u16.wrap _)) = _
  rw [wrap_n16_of]
  congr 3
  rw [Int.sub_eq_add_neg, BitVec.ofInt_add, BitVec.ofInt_neg, BitVec.sub_eq_add_neg]
theorem shl_n16 (a : Int) (yk : IntKind) (y : Int) (h : 0 ≤ y) : Op.shift .shl .u16 a yk y = pure (.int .u16 (n16 (BitVec.ofInt 16 a <<< y.toNat))) := by
  rw [shift_shl_any _ _ _ _ h, wrap_n16_of]
  congr 3
  apply BitVec.eq_of_toNat_eq
  rw [BitVec.toNat_shiftLeft, BitVec.toNat_ofInt, BitVec.toNat_ofInt, Nat.shiftLeft_eq]
  exact shl_nat 16 a y.toNat
theorem shr_n16 (x : BitVec 16) (yk : IntKind) (y : Int) (h : 0 ≤ y) : Op.shift .shr .u16 (n16 x) yk y = pure (.int .u16 (n16 (x >>> y.toNat))) := by
  rw [shift_shr_any _ _ _ _ h]
  congr 3
  unfold n16
  rw [BitVec.toNat_ushiftRight, Nat.shiftRight_eq_div_pow]
  exact shr_nat 16 x.toNat x.isLt y.toNat

/-- The number of a word of 32 bits. -/
def n32 (x : BitVec 32) : Int := (x.toNat : Int)
theorem n32_lo (x : BitVec 32) : 0 ≤ n32 x := by unfold n32; omega
theorem n32_hi (x : BitVec 32) : n32 x < 4294967296 := by have := x.isLt; unfold n32; omega
theorem n32_inj {x y : BitVec 32} (h : n32 x = n32 y) : x = y := by
  unfold n32 at h; exact BitVec.eq_of_toNat_eq (by omega)
theorem of_n32 (x : BitVec 32) : BitVec.ofInt 32 (n32 x) = x := by unfold n32; simp
theorem n32_of (a : Int) : n32 (BitVec.ofInt 32 a) = a % 4294967296 := by unfold n32; rw [BitVec.toNat_ofInt]; simp; omega
theorem wrap_n32_of (a : Int) : IntKind.u32.wrap a = n32 (BitVec.ofInt 32 a) := by
  rw [n32_of]; simp [IntKind.wrap, IntKind.bits, IntKind.signed]
theorem wrap_n32 (x : BitVec 32) : IntKind.u32.wrap (n32 x) = n32 x := by rw [wrap_n32_of, of_n32]
theorem n32_eq_iff (x y : BitVec 32) : (n32 x = n32 y) = (x = y) := propext ⟨n32_inj, fun h => by rw [h]⟩
theorem n32_beq (x y : BitVec 32) : (n32 x == n32 y) = (x == y) := by
  rw [Bool.eq_iff_iff]; simp [n32_eq_iff]
theorem n32_wf (x : BitVec 32) : (Lit.int .u32 (n32 x)).wf = true := by
  exact WalkArith.wf_u32 ⟨n32_lo x, by have := n32_hi x; omega⟩
theorem and_n32 (a b : Int) : Op.intBits .and .u32 a b = pure (.int .u32 (n32 (BitVec.ofInt 32 a &&& BitVec.ofInt 32 b))) := by
  show pure (Value.int .u32 (IntKind.u32.wrap _)) = _
  rw [← wrap_n32 (BitVec.ofInt 32 a &&& BitVec.ofInt 32 b)]; rfl
theorem or_n32 (a b : Int) : Op.intBits .or .u32 a b = pure (.int .u32 (n32 (BitVec.ofInt 32 a ||| BitVec.ofInt 32 b))) := by
  show pure (Value.int .u32 (IntKind.u32.wrap _)) = _
  rw [← wrap_n32 (BitVec.ofInt 32 a ||| BitVec.ofInt 32 b)]; rfl
theorem xor_n32 (a b : Int) : Op.intBits .xor .u32 a b = pure (.int .u32 (n32 (BitVec.ofInt 32 a ^^^ BitVec.ofInt 32 b))) := by
  show pure (Value.int .u32 (IntKind.u32.wrap _)) = _
  rw [← wrap_n32 (BitVec.ofInt 32 a ^^^ BitVec.ofInt 32 b)]; rfl
theorem add_n32 (a b : Int) : Op.intArith .add .u32 a b = pure (.int .u32 (n32 (BitVec.ofInt 32 a + BitVec.ofInt 32 b))) := by
  show pure (Value.int .u32 (IntKind.u32.wrap _)) = _
  rw [wrap_n32_of, BitVec.ofInt_add]
theorem mul_n32 (a b : Int) : Op.intArith .mul .u32 a b = pure (.int .u32 (n32 (BitVec.ofInt 32 a * BitVec.ofInt 32 b))) := by
  show pure (Value.int .u32 (IntKind.u32.wrap _)) = _
  rw [wrap_n32_of, BitVec.ofInt_mul]
theorem sub_n32 (a b : Int) : Op.intArith .sub .u32 a b = pure (.int .u32 (n32 (BitVec.ofInt 32 a - BitVec.ofInt 32 b))) := by
  show pure (Value.int .u32 (IntKind.u32.wrap _)) = _
  rw [wrap_n32_of]
  congr 3
  rw [Int.sub_eq_add_neg, BitVec.ofInt_add, BitVec.ofInt_neg, BitVec.sub_eq_add_neg]
theorem shl_n32 (a : Int) (yk : IntKind) (y : Int) (h : 0 ≤ y) : Op.shift .shl .u32 a yk y = pure (.int .u32 (n32 (BitVec.ofInt 32 a <<< y.toNat))) := by
  rw [shift_shl_any _ _ _ _ h, wrap_n32_of]
  congr 3
  apply BitVec.eq_of_toNat_eq
  rw [BitVec.toNat_shiftLeft, BitVec.toNat_ofInt, BitVec.toNat_ofInt, Nat.shiftLeft_eq]
  exact shl_nat 32 a y.toNat
theorem shr_n32 (x : BitVec 32) (yk : IntKind) (y : Int) (h : 0 ≤ y) : Op.shift .shr .u32 (n32 x) yk y = pure (.int .u32 (n32 (x >>> y.toNat))) := by
  rw [shift_shr_any _ _ _ _ h]
  congr 3
  unfold n32
  rw [BitVec.toNat_ushiftRight, Nat.shiftRight_eq_div_pow]
  exact shr_nat 32 x.toNat x.isLt y.toNat

/-- The number of a word of 64 bits. -/
def n64 (x : BitVec 64) : Int := (x.toNat : Int)
theorem n64_lo (x : BitVec 64) : 0 ≤ n64 x := by unfold n64; omega
theorem n64_hi (x : BitVec 64) : n64 x < 18446744073709551616 := by have := x.isLt; unfold n64; omega
theorem n64_inj {x y : BitVec 64} (h : n64 x = n64 y) : x = y := by
  unfold n64 at h; exact BitVec.eq_of_toNat_eq (by omega)
theorem of_n64 (x : BitVec 64) : BitVec.ofInt 64 (n64 x) = x := by unfold n64; simp
theorem n64_of (a : Int) : n64 (BitVec.ofInt 64 a) = a % 18446744073709551616 := by unfold n64; rw [BitVec.toNat_ofInt]; simp; omega
theorem wrap_n64_of (a : Int) : IntKind.u64.wrap a = n64 (BitVec.ofInt 64 a) := by
  rw [n64_of]; simp [IntKind.wrap, IntKind.bits, IntKind.signed]
theorem wrap_n64 (x : BitVec 64) : IntKind.u64.wrap (n64 x) = n64 x := by rw [wrap_n64_of, of_n64]
theorem n64_eq_iff (x y : BitVec 64) : (n64 x = n64 y) = (x = y) := propext ⟨n64_inj, fun h => by rw [h]⟩
theorem n64_beq (x y : BitVec 64) : (n64 x == n64 y) = (x == y) := by
  rw [Bool.eq_iff_iff]; simp [n64_eq_iff]
theorem n64_wf (x : BitVec 64) : (Lit.int .u64 (n64 x)).wf = true := by
  exact WalkArith.wf_u64 ⟨n64_lo x, by have := n64_hi x; omega⟩
theorem and_n64 (a b : Int) : Op.intBits .and .u64 a b = pure (.int .u64 (n64 (BitVec.ofInt 64 a &&& BitVec.ofInt 64 b))) := by
  show pure (Value.int .u64 (IntKind.u64.wrap _)) = _
  rw [← wrap_n64 (BitVec.ofInt 64 a &&& BitVec.ofInt 64 b)]; rfl
theorem or_n64 (a b : Int) : Op.intBits .or .u64 a b = pure (.int .u64 (n64 (BitVec.ofInt 64 a ||| BitVec.ofInt 64 b))) := by
  show pure (Value.int .u64 (IntKind.u64.wrap _)) = _
  rw [← wrap_n64 (BitVec.ofInt 64 a ||| BitVec.ofInt 64 b)]; rfl
theorem xor_n64 (a b : Int) : Op.intBits .xor .u64 a b = pure (.int .u64 (n64 (BitVec.ofInt 64 a ^^^ BitVec.ofInt 64 b))) := by
  show pure (Value.int .u64 (IntKind.u64.wrap _)) = _
  rw [← wrap_n64 (BitVec.ofInt 64 a ^^^ BitVec.ofInt 64 b)]; rfl
theorem add_n64 (a b : Int) : Op.intArith .add .u64 a b = pure (.int .u64 (n64 (BitVec.ofInt 64 a + BitVec.ofInt 64 b))) := by
  show pure (Value.int .u64 (IntKind.u64.wrap _)) = _
  rw [wrap_n64_of, BitVec.ofInt_add]
theorem mul_n64 (a b : Int) : Op.intArith .mul .u64 a b = pure (.int .u64 (n64 (BitVec.ofInt 64 a * BitVec.ofInt 64 b))) := by
  show pure (Value.int .u64 (IntKind.u64.wrap _)) = _
  rw [wrap_n64_of, BitVec.ofInt_mul]
theorem sub_n64 (a b : Int) : Op.intArith .sub .u64 a b = pure (.int .u64 (n64 (BitVec.ofInt 64 a - BitVec.ofInt 64 b))) := by
  show pure (Value.int .u64 (IntKind.u64.wrap _)) = _
  rw [wrap_n64_of]
  congr 3
  rw [Int.sub_eq_add_neg, BitVec.ofInt_add, BitVec.ofInt_neg, BitVec.sub_eq_add_neg]
theorem shl_n64 (a : Int) (yk : IntKind) (y : Int) (h : 0 ≤ y) : Op.shift .shl .u64 a yk y = pure (.int .u64 (n64 (BitVec.ofInt 64 a <<< y.toNat))) := by
  rw [shift_shl_any _ _ _ _ h, wrap_n64_of]
  congr 3
  apply BitVec.eq_of_toNat_eq
  rw [BitVec.toNat_shiftLeft, BitVec.toNat_ofInt, BitVec.toNat_ofInt, Nat.shiftLeft_eq]
  exact shl_nat 64 a y.toNat
theorem shr_n64 (x : BitVec 64) (yk : IntKind) (y : Int) (h : 0 ≤ y) : Op.shift .shr .u64 (n64 x) yk y = pure (.int .u64 (n64 (x >>> y.toNat))) := by
  rw [shift_shr_any _ _ _ _ h]
  congr 3
  unfold n64
  rw [BitVec.toNat_ushiftRight, Nat.shiftRight_eq_div_pow]
  exact shr_nat 64 x.toNat x.isLt y.toNat

/-! conversions -/
theorem of32_n8 (x : BitVec 8) : BitVec.ofInt 32 (n8 x) = x.setWidth 32 := by
  unfold n8; apply BitVec.eq_of_toNat_eq; simp
theorem of64_n8 (x : BitVec 8) : BitVec.ofInt 64 (n8 x) = x.setWidth 64 := by
  unfold n8; apply BitVec.eq_of_toNat_eq; simp
theorem of64_n32 (x : BitVec 32) : BitVec.ofInt 64 (n32 x) = x.setWidth 64 := by
  unfold n32; apply BitVec.eq_of_toNat_eq; simp
theorem of64_n16 (x : BitVec 16) : BitVec.ofInt 64 (n16 x) = x.setWidth 64 := by
  unfold n16; apply BitVec.eq_of_toNat_eq; simp
theorem of32_n16 (x : BitVec 16) : BitVec.ofInt 32 (n16 x) = x.setWidth 32 := by
  unfold n16; apply BitVec.eq_of_toNat_eq; simp
theorem of16_n8 (x : BitVec 8) : BitVec.ofInt 16 (n8 x) = x.setWidth 16 := by
  unfold n8; apply BitVec.eq_of_toNat_eq; simp
theorem of8_n32 (x : BitVec 32) : BitVec.ofInt 8 (n32 x) = x.setWidth 8 := by
  unfold n32; apply BitVec.eq_of_toNat_eq; simp
theorem of8_n64 (x : BitVec 64) : BitVec.ofInt 8 (n64 x) = x.setWidth 8 := by
  unfold n64; apply BitVec.eq_of_toNat_eq; simp
theorem of32_n64 (x : BitVec 64) : BitVec.ofInt 32 (n64 x) = x.setWidth 32 := by
  unfold n64; apply BitVec.eq_of_toNat_eq; simp
theorem of16_n64 (x : BitVec 64) : BitVec.ofInt 16 (n64 x) = x.setWidth 16 := by
  unfold n64; apply BitVec.eq_of_toNat_eq; simp
theorem of8_n16 (x : BitVec 16) : BitVec.ofInt 8 (n16 x) = x.setWidth 8 := by
  unfold n16; apply BitVec.eq_of_toNat_eq; simp
end Bv
end Go.Proofs.Ytgpbmohfgjmpkaa

/- Numbers of bytes, the least significant one first, in plain Lean. No condition. -/
import Derived.Test.YtgpbmohfgjmpkaaPduCrc
set_option linter.unusedSimpArgs false
set_option linter.unusedVariables false
namespace Go.Proofs.Ytgpbmohfgjmpkaa
namespace Pd
theorem numN_length : ∀ (n v : Nat), (numN n v).length = n
  | 0, _ => rfl
  | n + 1, v => by simp [numN, numN_length n]
theorem numL_length (v : BitVec 32) (n : Nat) : (numL v n).length = n := numN_length _ _
theorem numN_snoc : ∀ (n v : Nat), numN (n + 1) v = numN n v ++ [BitVec.ofNat 8 (v / 256 ^ n)]
  | 0, v => by simp [numN]
  | n + 1, v => by
    rw [numN, numN_snoc n, numN, List.cons_append]
    congr 3
    rw [Nat.div_div_eq_div_mul, Nat.pow_succ, Nat.mul_comm]
theorem byte_shr (v : BitVec 32) (i : Nat) : (v >>> (8 * i)).setWidth 8 = BitVec.ofNat 8 (v.toNat / 256 ^ i) := by
  apply BitVec.eq_of_toNat_eq
  rw [BitVec.toNat_setWidth, BitVec.toNat_ushiftRight, BitVec.toNat_ofNat, Nat.shiftRight_eq_div_pow, Nat.pow_mul]
theorem numL_snoc (v : BitVec 32) (i : Nat) : numL v (i + 1) = numL v i ++ [(v >>> (8 * i)).setWidth 8] := by
  unfold numL; rw [numN_snoc, byte_shr]
theorem bigL_append : ∀ (a b : List (BitVec 8)), bigL (a ++ b) = bigL a + 256 ^ a.length * bigL b
  | [], b => by simp [bigL]
  | x :: a, b => by
    rw [List.cons_append, bigL, bigL_append a b, bigL, List.length_cons, Nat.pow_succ, Nat.mul_add, Nat.mul_comm (256 ^ a.length) 256, Nat.mul_assoc]
    omega
theorem bigL_lt : ∀ (a : List (BitVec 8)), bigL a < 256 ^ a.length
  | [] => by simp [bigL]
  | x :: a => by
    have := bigL_lt a
    have := x.isLt
    rw [bigL, List.length_cons, Nat.pow_succ]
    omega
theorem bigL_numN : ∀ (n v : Nat), bigL (numN n v) = v % 256 ^ n
  | 0, v => by simp [numN, bigL, Nat.mod_one]
  | n + 1, v => by
    have e : (256 : Nat) ^ (n + 1) = 256 * 256 ^ n := by rw [Nat.pow_succ, Nat.mul_comm]
    rw [numN, bigL, bigL_numN n, BitVec.toNat_ofNat, e, Nat.mod_mul]
theorem numN_bigL : ∀ (a : List (BitVec 8)), numN a.length (bigL a) = a
  | [] => rfl
  | x :: a => by
    rw [List.length_cons, numN, bigL]
    have h1 : (x.toNat + 256 * bigL a) / 256 = bigL a := by have := x.isLt; omega
    have h2 : BitVec.ofNat 8 (x.toNat + 256 * bigL a) = x := by
      apply BitVec.eq_of_toNat_eq
      rw [BitVec.toNat_ofNat]
      have := x.isLt; omega
    rw [h1, h2, numN_bigL a]
theorem numL_mod (n v : Nat) (h : v < 256 ^ n) (hn : n ≤ 4) : numL (BitVec.ofNat 32 v) n = numN n v := by
  unfold numL
  have : 256 ^ n ≤ 2 ^ 32 := by
    have : 256 ^ n ≤ 256 ^ 4 := Nat.pow_le_pow_right (by omega) hn
    simpa using this
  rw [BitVec.toNat_ofNat, Nat.mod_eq_of_lt (by omega)]
theorem bigL_numL (v : BitVec 32) : bigL (numL v 4) = v.toNat := by
  unfold numL
  rw [bigL_numN, Nat.mod_eq_of_lt]
  have := v.isLt
  simpa using this
theorem w32_numL (v : BitVec 32) : w32 (numL v 4) = v := by
  unfold w32; rw [bigL_numL]; simp
theorem numL_w32 (a : List (BitVec 8)) (h : a.length = 4) : numL (w32 a) 4 = a := by
  unfold w32
  rw [numL_mod _ _ (by rw [← h]; exact bigL_lt a) (by omega), ← h, numN_bigL]
theorem numL_eq_iff (a : List (BitVec 8)) (h : a.length = 4) (v : BitVec 32) : (w32 a = v) ↔ a = numL v 4 := by
  constructor
  · intro e; rw [← e, numL_w32 a h]
  · intro e; rw [e, w32_numL]
theorem w16_numL (v : BitVec 16) : w16 (numL (v.setWidth 32) 2) = v := by
  unfold w16 numL
  rw [bigL_numN]
  apply BitVec.eq_of_toNat_eq
  have := v.isLt
  simp
  omega
theorem numL_w16 (a : List (BitVec 8)) (h : a.length = 2) : numL ((w16 a).setWidth 32) 2 = a := by
  unfold w16 numL
  have hl := bigL_lt a
  rw [h] at hl
  have : (BitVec.setWidth 32 (BitVec.ofNat 16 (bigL a))).toNat = bigL a := by
    simp
    omega
  rw [this, ← h, numN_bigL]
/-- A byte more, as the code adds it. -/
theorem w32_snoc (a : List (BitVec 8)) (b : BitVec 8) (h : a.length < 4) : w32 (a ++ [b]) = w32 a ||| (b.setWidth 32 <<< (8 * a.length)) := by
  have hl := bigL_lt a
  have e : (256 : Nat) ^ a.length = 2 ^ (8 * a.length) := by rw [Nat.pow_mul]
  have h24 : (2 : Nat) ^ (8 * a.length) ≤ 2 ^ 24 := Nat.pow_le_pow_right (by omega) (by omega)
  apply BitVec.eq_of_toNat_eq
  unfold w32
  have hb := b.isLt
  have hbig : bigL (a ++ [b]) = bigL a + 2 ^ (8 * a.length) * b.toNat := by rw [bigL_append, e]; simp [bigL]
  rw [e] at hl
  have hp : 2 ^ (8 * a.length) * b.toNat + 2 ^ (8 * a.length) ≤ 2 ^ (8 * a.length) * 256 := by
    have : 2 ^ (8 * a.length) * (b.toNat + 1) ≤ 2 ^ (8 * a.length) * 256 := Nat.mul_le_mul_left _ (by omega)
    rwa [Nat.mul_add, Nat.mul_one] at this
  have h32 : 2 ^ (8 * a.length) * 256 ≤ 2 ^ 32 := by
    have : (2 : Nat) ^ (8 * a.length) * 256 ≤ 2 ^ 24 * 256 := Nat.mul_le_mul_right _ h24
    simpa using this
  have hlt : 2 ^ (8 * a.length) * b.toNat + bigL a < 2 ^ 32 := by omega
  rw [hbig, BitVec.toNat_ofNat, BitVec.toNat_or, BitVec.toNat_ofNat, BitVec.toNat_shiftLeft, BitVec.toNat_setWidth, Nat.shiftLeft_eq]
  rw [Nat.mod_eq_of_lt (show b.toNat < 2 ^ 32 by omega), Nat.mod_eq_of_lt (show bigL a < 2 ^ 32 by omega), Nat.mul_comm b.toNat, Nat.mod_eq_of_lt (show 2 ^ (8 * a.length) * b.toNat < 2 ^ 32 by omega), Nat.mod_eq_of_lt (by omega), Nat.or_comm, ← Nat.two_pow_add_eq_or_of_lt hl, Nat.add_comm]
end Pd
end Go.Proofs.Ytgpbmohfgjmpkaa

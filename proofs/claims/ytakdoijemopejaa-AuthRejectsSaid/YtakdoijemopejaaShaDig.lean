/- Walks of the reference's digits and constants. -/
import Derived.Test.YtakdoijemopejaaShaPow
import Derived.Test.YtakdoijemopejaaBaseA
import Derived.Test.YtakdoijemopejaaShaConst
set_option maxRecDepth 100000
set_option linter.unusedSimpArgs false
set_option linter.unusedVariables false
namespace Go.Proofs.Ytakdoijemopejaa
open Go.RowKit
namespace Sha
open Bv (n8 n16 n32 n64)
def pw2 (i : Nat) : Int := ((2 ^ i : Nat) : Int)
theorem pw2_pos (i : Nat) : 0 < pw2 i := by unfold pw2; have := Nat.two_pow_pos i; omega
theorem shl1 (i : Nat) (h : i < 62) : Op.shift .shl .i64 1 .i64 (i : Int) = pure (.int .i64 (pw2 i)) := by
 rw [shift_shl_any _ _ _ _ (by omega)]
 have e : (1 : Int) * 2 ^ min ((i : Int).toNat) (IntKind.bits .i64) = pw2 i := by
  rw [Int.toNat_natCast, Nat.min_eq_left (by simp [IntKind.bits]; omega), Int.one_mul]; unfold pw2; simp
 rw [e]
 have hb : pw2 i < 4611686018427387904 := by
  unfold pw2
  have := Nat.pow_lt_pow_right (show 1 < 2 by decide) h
  have e2 : (2 : Nat) ^ 62 = 4611686018427387904 := by decide
  omega
 have := pw2_pos i
 rw [IntWalk.i64_in _ (by omega)]
attribute [local go_sem ↓] shl1
def dgo (p : Int) (d : Nat) : Nat → Int → Int
 | 0, x => x
 | i + 1, x => dgo p d i (if naGo (powL (x + pw2 i) d) p (2 * (d : Int)) (powL (x + pw2 i) d).length then x + pw2 i else x)
def digN (p d : Nat) : BitVec 32 := BitVec.ofInt 32 (dgo p d 37 0 % 4294967296)
attribute [local irreducible] dgo naGo powL pw2
end Sha
end Go.Proofs.Ytakdoijemopejaa


/- Walks of the reference's digits and constants. -/
import Derived.Test.YtakdoijemopejaaGreatShaPow
import Derived.Test.YtakdoijemopejaaGreatBaseA
import Derived.Test.YtakdoijemopejaaGreatShaConst
set_option maxRecDepth 100000
set_option linter.unusedSimpArgs false
set_option linter.unusedVariables false
namespace Go.Proofs.YtakdoijemopejaaGreat
open Go.RowKit
namespace Sha
open Bv (n8 n16 n32 n64)
def pw2 (i : Nat) : Int := ((2 ^ i : Nat) : Int)
theorem pw2_succ (i : Nat) : pw2 (i + 1) = pw2 i + pw2 i := by unfold pw2; rw [Nat.pow_succ]; omega
theorem pw2_pos (i : Nat) : 0 < pw2 i := by unfold pw2; have := Nat.two_pow_pos i; omega
theorem pw2_37 : pw2 37 = 137438953472 := by decide
theorem shl1 (i : Nat) (h : i < 62) : Op.shift .shl .i64 1 .i64 (i : Int) = pure (.int .i64 (pw2 i)) := by
 rw [shift_shl_any _ _ _ _ (by omega)]
 have e : (1 : Int) * 2 ^ min ((i : Int).toNat) (IntKind.bits .i64) = pw2 i := by
  rw [Int.toNat_natCast, Nat.min_eq_left (by simp [IntKind.bits]; omega), Int.one_mul]; unfold pw2; simp
 rw [e]
 have hb : pw2 i < 4611686018427387904 := by
  unfold pw2
  have := Nat.pow_lt_pow_right (show 1 < 2 by decide) h
  have e2 : (2 : Nat) ^ 62 = 4611686018427387904 := by decide
  omega
 have := pw2_pos i
 rw [IntWalk.i64_in _ (by omega)]
attribute [local go_sem ↓] shl1
def dgo (p : Int) (d : Nat) : Nat → Int → Int
 | 0, x => x
 | i + 1, x => dgo p d i (if naGo (powL (x + pw2 i) d) p (2 * (d : Int)) (powL (x + pw2 i) d).length then x + pw2 i else x)
def digN (p d : Nat) : BitVec 32 := BitVec.ofInt 32 (dgo p d 37 0 % 4294967296)
attribute [local irreducible] dgo naGo powL pw2
set_option maxHeartbeats 2000000 in
theorem digits_any (p d : Nat) (_ : p < 1000) (hd : d ≤ 3) (w : World) : Calls Tryz.prog 80 #[.int .i64 (p : Int), .int .i64 (d : Int)] w fun e w' => e = .returned (.int .u32 (n32 (digN p d))) ∧ Below w.heap.size w w' := by
 obtain ⟨n, hn⟩ : ∃ n, n = w.heap.size := ⟨_, rfl⟩
 have HN := Lib.hid hn
 clear hn
 go_enter Tryz.func80, Tryz.ntmps80
 go_wp2_with fail
 go_loopg [5, 6] 37 (fun gh s5 s6 wr => ∃ (k : Nat) (x : Int), gh = k ∧ k ≤ 37 ∧ s5 = .int .i64 x ∧ s6 = .int .i64 ((k : Int) - 1) ∧ 0 ≤ x ∧ Hid (x + pw2 k ≤ 137438953472) ∧ Hid (dgo p d k x = dgo p d 37 0) ∧ Below n w wr)
 case atStart => exact ⟨37, 0, rfl, by omega, rfl, rfl, by omega, Lib.hid (by rw [pw2_37]; omega), Lib.hid rfl, by rw [HN.out]; exact Below.refl _ _⟩
 case round =>
  obtain ⟨k, x, rfl, hk, rfl, rfl, hx, hX, hD, hb⟩ := hrel
  cases gk with
  | zero =>
   have e0 : dgo p d 0 x = x := by rw [dgo]
   have hx2 : x < 137438953472 := by have := hX.out; have := pw2_pos 0; omega
   have ED := Lib.hid (e0.symm.trans hD.out)
   clear e0
   go_wp2_with fail
   go_ret
   refine ⟨?_, by rw [← HN.out]; exact hb⟩
   unfold digN
   rw [← ED.out]
   show Ending.returned (.int .u32 (x % 4294967296)) = _
   rw [Bv.n32_of, Int.emod_emod]
  | succ k =>
   have ek : ((k + 1 : Nat) : Int) - 1 = (k : Int) := by omega
   rw [ek]
   clear ek
   have k62 : k < 62 := by omega
   have p0 := pw2_pos k
   have p1 : x + pw2 k + pw2 k ≤ 137438953472 := by have := hX.out; rw [pw2_succ] at this; omega
   have p2 : x + pw2 k < 137438953472 := by omega
   have p3 : 0 ≤ x + pw2 k := by omega
   have R : dgo p d (k + 1) x = dgo p d k (if naGo (powL (x + pw2 k) d) p (2 * (d : Int)) (powL (x + pw2 k) d).length then x + pw2 k else x) := by rw [dgo]
   have C := Lib.hid (fun wx => power_any (x + pw2 k) p3 p2 d hd wx)
   go_wp2_with fail
   refine Calls.mono (C.out _) ?_
   rintro e w1 ⟨b, cap, rfl, hB, hb1⟩
   have pl : (powL (x + pw2 k) d).length = 3 * d + 1 := powL_length _ _
   have N := Lib.hid (notAbove_any (powL (x + pw2 k) d) p (2 * (d : Int)) b cap (by omega) w1 (fun i hi => (hB.cell i).trans (vi_get _ _ hi)))
   have hb2 : Below n w w1 := hb.trans (hb1.mono (by rw [HN.out]; exact hb.size))
   clear hb1 C pl
   cases ht : naGo (powL (x + pw2 k) d) p (2 * (d : Int)) (powL (x + pw2 k) d).length with
   | true =>
    rw [ht] at N R
    have RR := Lib.hid (R.symm.trans hD.out)
    clear ht R
    go_wp2_with fail
    refine Calls.mono N.out ?_
    rintro e w2 ⟨rfl, rfl⟩
    go_wp2_with fail
    go_roundg k
    case measure => omega
    case rel => exact ⟨k, x + pw2 k, rfl, by omega, rfl, rfl, p3, Lib.hid (by omega), Lib.hid (by rw [← RR.out]; rfl), hb2⟩
   | false =>
    rw [ht] at N R
    have RR := Lib.hid (R.symm.trans hD.out)
    clear ht R
    go_wp2_with fail
    refine Calls.mono N.out ?_
    rintro e w2 ⟨rfl, rfl⟩
    go_wp2_with fail
    go_roundg k
    case measure => omega
    case rel => exact ⟨k, x, rfl, by omega, rfl, rfl, hx, Lib.hid (by omega), Lib.hid (by rw [← RR.out]; rfl), hb2⟩
end Sha
end Go.Proofs.YtakdoijemopejaaGreat


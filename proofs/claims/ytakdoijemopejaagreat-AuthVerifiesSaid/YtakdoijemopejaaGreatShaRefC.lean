/- Walks of the reference's primes, powers and digits. -/
import Derived.Test.YtakdoijemopejaaGreatShaPrimes
import Derived.StillTailTactics
import Derived.Deep.OwnRows
set_option maxRecDepth 100000
set_option linter.unusedSimpArgs false
set_option linter.unusedVariables false
namespace Go.Proofs.YtakdoijemopejaaGreat
open Go.RowKit
namespace Sha
open Bv (n8 n16 n32 n64)
def isP (n : Nat) : Bool := (List.range 20).all fun d => decide (d < 2) || decide (n < d * d) || decide (¬ n % d = 0)
set_option maxHeartbeats 1000000 in
theorem rprime_any (n : Nat) (hn : n < 400) (w : World) : Calls Tryz.prog 79 #[.int .i64 (n : Int)] w fun e w' => e = .returned (.bool (isP n)) ∧ w = w' := by
 go_enter Tryz.func79, Tryz.ntmps79
 go_wp2_with fail
 go_loop [3] (fun s3 => ∃ d : Nat, 2 ≤ d ∧ d ≤ 20 ∧ s3 = .int .i64 d ∧ Hid (∀ e, 2 ≤ e → e < d → ¬ n % e = 0)) (fun s3 => 20 - (intOf s3).toNat)
 case atStart => exact ⟨2, by omega, by omega, rfl, Lib.hid (fun e h1 h2 => by omega)⟩
 case round =>
  obtain ⟨d, h2, h20, rfl, hn⟩ := hrel
  have hdd : (d : Int) * (d : Int) ≤ 400 := by
   have := Nat.mul_le_mul h20 h20
   have e : (d : Int) * (d : Int) = ((d * d : Nat) : Int) := by simp
   rw [e]; omega
  have hd0 : (0 : Int) ≤ (d : Int) * (d : Int) := Int.mul_nonneg (by omega) (by omega)
  by_cases hle : d * d ≤ n
  ·have hle' : (d : Int) * (d : Int) ≤ (n : Int) := by
    have e : (d : Int) * (d : Int) = ((d * d : Nat) : Int) := by simp
    rw [e]; omega
   have hlt : d < 20 := by
    rcases Nat.lt_or_ge d 20 with h | h
    ·exact h
    ·have := Nat.mul_le_mul h h; omega
   by_cases hd : n % d = 0
   ·have e : isP n = false := by
     unfold isP; rw [List.all_eq_false]
     exact ⟨d, List.mem_range.2 hlt, by simp [hd]; omega⟩
    have hb : ((n : Int) % (d : Int) == 0) = true := by simp; omega
    have E := Lib.hid e
    clear e hd hle
    go_wp2_with fail
    go_ret
    exact ⟨by rw [E.out]; rfl, rfl⟩
   ·have hb : ((n : Int) % (d : Int) == 0) = false := by simp; omega
    have HD := Lib.hid hd
    clear hd hle
    go_wp2_with fail
    go_round
    case rel => exact ⟨d + 1, by omega, by omega, by go_num, Lib.hid (fun e h1 h3 => by
     by_cases he : e = d
     ·subst he; exact HD.out
     ·exact hn.out e h1 (by omega))⟩
    case measure => first | (simp [intOf]; done) | (simp [intOf]; omega)
  ·have hle' : ¬ (d : Int) * (d : Int) ≤ (n : Int) := by
    have e : (d : Int) * (d : Int) = ((d * d : Nat) : Int) := by simp
    rw [e]; omega
   have e : isP n = true := by
    unfold isP; rw [List.all_eq_true]
    intro e he
    have he' := List.mem_range.1 he
    by_cases h1 : e < 2
    ·simp [h1]
    ·by_cases h3 : e < d
     ·simp [hn.out e (by omega) h3]
     ·have := Nat.mul_le_mul (show d ≤ e by omega) (show d ≤ e by omega)
      simp [show n < e * e by omega]
   have E := Lib.hid e
   clear e hle
   go_wp2_with fail
   go_ret
   exact ⟨by rw [E.out]; rfl, rfl⟩
/-- From the digit i - 1 down. -/
def naGo (ds : List Int) (p z : Int) : Nat → Bool
 | 0 => true
 | i + 1 => if ds.getD i 0 = (if (i : Int) = z then p else 0) then naGo ds p z i else decide (ds.getD i 0 < (if (i : Int) = z then p else 0))
set_option maxHeartbeats 1000000 in
theorem notAbove_any (ds : List Int) (p z : Int) (b cap : Nat) (hl : ds.length ≤ 1000) (w : World) (hc : ∀ i, i < ds.length → w.cell? ⟨b, i, none⟩ = some (.int .i64 (ds.getD i 0))) :
  Calls Tryz.prog 89 #[.slice (some ⟨b, 0, none⟩) ds.length cap, .int .i64 p, .int .i64 z] w fun e w' => e = .returned (.bool (naGo ds p z ds.length)) ∧ w = w' := by
 go_enter Tryz.func89, Tryz.ntmps89
 go_wp2_with fail
 go_loop [7] (fun s7 => ∃ k : Nat, k ≤ ds.length ∧ s7 = .int .i64 ((k : Int) - 1) ∧ Hid (naGo ds p z k = naGo ds p z ds.length)) (fun s7 => (intOf s7 + 1).toNat)
 case atStart => exact ⟨ds.length, Nat.le_refl _, rfl, Lib.hid rfl⟩
 case round =>
  obtain ⟨k, hk, rfl, hn⟩ := hrel
  cases k with
  | zero =>
   go_wp2_with fail
   go_ret
   exact ⟨by rw [← hn.out]; rfl, rfl⟩
  | succ k =>
   have ek : ((k + 1 : Nat) : Int) - 1 = (k : Int) := by omega
   rw [ek]
   clear ek
   have ck := hc k (by omega)
   have kl : (k : Int) < (ds.length : Int) := by omega
   have R : naGo ds p z (k + 1) = if ds.getD k 0 = (if (k : Int) = z then p else 0) then naGo ds p z k else decide (ds.getD k 0 < (if (k : Int) = z then p else 0)) := rfl
   generalize hx : ds.getD k 0 = x at ck R
   by_cases hz : (k : Int) = z
   ·have hz' : ((k : Int) == z) = true := by simp [hz]
    rw [if_pos hz] at R
    by_cases hx1 : x = p
    ·have hx' : (x != p) = false := by simp [hx1]
     rw [if_pos hx1] at R
     have RR := Lib.hid (R.symm.trans hn.out)
     clear R hn hx hx1 hz
     go_wp2_with fail
     go_round
     case rel => exact ⟨k, by omega, by go_num, RR⟩
     case measure => first | (simp [intOf]; done) | (simp [intOf]; omega)
    ·have hx' : (x != p) = true := by simp [hx1]
     rw [if_neg hx1] at R
     have RR := Lib.hid (R.symm.trans hn.out)
     clear R hn hx hx1 hz
     go_wp2_with fail
     go_ret
     exact ⟨by rw [← RR.out]; rfl, rfl⟩
   ·have hz' : ((k : Int) == z) = false := by simp [hz]
    rw [if_neg hz] at R
    by_cases hx1 : x = 0
    ·have hx' : (x != 0) = false := by simp [hx1]
     rw [if_pos hx1] at R
     have RR := Lib.hid (R.symm.trans hn.out)
     clear R hn hx hx1 hz
     go_wp2_with fail
     go_round
     case rel => exact ⟨k, by omega, by go_num, RR⟩
     case measure => first | (simp [intOf]; done) | (simp [intOf]; omega)
    ·have hx' : (x != 0) = true := by simp [hx1]
     rw [if_neg hx1] at R
     have RR := Lib.hid (R.symm.trans hn.out)
     clear R hn hx hx1 hz
     go_wp2_with fail
     go_ret
     exact ⟨by rw [← RR.out]; rfl, rfl⟩
end Sha
end Go.Proofs.YtakdoijemopejaaGreat


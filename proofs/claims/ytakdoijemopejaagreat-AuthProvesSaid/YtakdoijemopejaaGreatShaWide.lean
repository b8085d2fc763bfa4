/- Walks of the wide integers of sha. -/
import Derived.Test.YtakdoijemopejaaGreatBaseA
import Derived.Test.YtakdoijemopejaaGreatQuiet
import Derived.Test.YtakdoijemopejaaGreatProg
import Derived.Lib.Mul64
import Derived.Deep.LoopGhost
import Derived.Deep.DeepCutAuto
import Derived.Deep.CutBlock
import Derived.Deep.Light
import Derived.Outline
import Derived.Handy
import Derived.BigQuiet
set_option maxRecDepth 100000
set_option linter.unusedSimpArgs false
set_option linter.unusedVariables false
namespace Go.Proofs.YtakdoijemopejaaGreat
open Go.RowKit
namespace Sha
open Bv (n8 n16 n32 n64)
theorem isNaN_any (x : Int) (w : World) : Calls Tryz.prog 110 #[.int .u64 x] w fun e w' => e = .returned (.bool false) ∧ w = w' := by
 go_enter Tryz.func110, Tryz.ntmps110
 go_wp2
 go_ret
 exact ⟨by simp, rfl⟩
/-- -1, 0 or 1. -/
def cmpI (a b : Int) : Int := if a < b then -1 else if b < a then 1 else 0
set_option maxHeartbeats 400000 in
theorem compare_any (a b : Int) (w : World) : Calls Tryz.prog 109 #[.int .u64 a, .int .u64 b] w fun e w' => e = .returned (.int .i64 (cmpI a b)) ∧ w = w' := by
 rcases Int.lt_trichotomy a b with h | h | h
 ·have e : cmpI a b = -1 := by unfold cmpI; rw [if_pos h]
  have H := Lib.hid e
  clear e
  go_enter Tryz.func109, Tryz.ntmps109
  go_wp2_with (go_at_call 110; refine (isNaN_any _ _).mono ?_; rintro e w' ⟨rfl, rfl⟩)
  go_ret
  exact ⟨by rw [H.out]; rfl, rfl⟩
 ·subst h
  have e : cmpI a a = 0 := by unfold cmpI; rw [if_neg (Int.lt_irrefl a), if_neg (Int.lt_irrefl a)]
  have H := Lib.hid e
  clear e
  go_enter Tryz.func109, Tryz.ntmps109
  go_wp2_with (go_at_call 110; refine (isNaN_any _ _).mono ?_; rintro e w' ⟨rfl, rfl⟩)
  go_ret
  exact ⟨by rw [H.out]; rfl, rfl⟩
 ·have e : cmpI a b = 1 := by unfold cmpI; rw [if_neg (by omega), if_pos h]
  have h' : ¬ a < b := by omega
  have H := Lib.hid e
  clear e
  go_enter Tryz.func109, Tryz.ntmps109
  go_wp2_with (go_at_call 110; refine (isNaN_any _ _).mono ?_; rintro e w' ⟨rfl, rfl⟩)
  go_ret
  exact ⟨by rw [H.out]; rfl, rfl⟩
theorem compare_eq {a b c : Int} (h : c = cmpI a b) (w : World) : Calls Tryz.prog 109 #[.int .u64 a, .int .u64 b] w fun e w' => e = .returned (.int .i64 c) ∧ w = w' := by
 subst h; exact compare_any a b w
theorem mul64_val (x y : BitVec 64) :
  ((x >>> 32) * (y >>> 32) + ((x >>> 32) * (y &&& 4294967295#64) + ((x &&& 4294967295#64) * (y &&& 4294967295#64)) >>> 32) >>> 32 + ((((x >>> 32) * (y &&& 4294967295#64) + ((x &&& 4294967295#64) * (y &&& 4294967295#64)) >>> 32) &&& 4294967295#64) + (x &&& 4294967295#64) * (y >>> 32)) >>> 32).toNat = x.toNat * y.toNat / 18446744073709551616 := by
 obtain ⟨h1, h2, h3, h4⟩ := Lib.mul64_hi x.toNat y.toNat x.isLt y.isLt
 have m : ∀ z : BitVec 64, (z &&& 4294967295#64).toNat = z.toNat % 4294967296 := fun z => by
  rw [BitVec.toNat_and]; exact Nat.and_two_pow_sub_one_eq_mod z.toNat 32
 have s : ∀ z : BitVec 64, (z >>> 32).toNat = z.toNat / 4294967296 := fun z => by
  rw [BitVec.toNat_ushiftRight, Nat.shiftRight_eq_div_pow]
 have hq : x.toNat * y.toNat / 18446744073709551616 < 18446744073709551616 := by
  have := Nat.mul_lt_mul'' x.isLt y.isLt
  omega
 have b1 : x.toNat / 4294967296 * (y.toNat / 4294967296) ≤ x.toNat * y.toNat / 18446744073709551616 := by omega
 have e1 : ((x &&& 4294967295#64) * (y &&& 4294967295#64)).toNat = (x.toNat % 4294967296) * (y.toNat % 4294967296) := by
  rw [BitVec.toNat_mul, m, m]; exact Nat.mod_eq_of_lt h1
 have e2 : ((x >>> 32) * (y &&& 4294967295#64) + ((x &&& 4294967295#64) * (y &&& 4294967295#64)) >>> 32).toNat = (x.toNat / 4294967296) * (y.toNat % 4294967296) + (x.toNat % 4294967296) * (y.toNat % 4294967296) / 4294967296 := by
  rw [BitVec.toNat_add, BitVec.toNat_mul, m, s, s, e1]
  rw [Nat.mod_eq_of_lt (a := x.toNat / 4294967296 * (y.toNat % 4294967296)) (by omega)]
  exact Nat.mod_eq_of_lt h2
 generalize (x >>> 32) * (y &&& 4294967295#64) + ((x &&& 4294967295#64) * (y &&& 4294967295#64)) >>> 32 = T at e2
 have e3 : ((T &&& 4294967295#64) + (x &&& 4294967295#64) * (y >>> 32)).toNat = ((x.toNat / 4294967296) * (y.toNat % 4294967296) + (x.toNat % 4294967296) * (y.toNat % 4294967296) / 4294967296) % 4294967296 + (x.toNat % 4294967296) * (y.toNat / 4294967296) := by
  rw [BitVec.toNat_add, m, e2, BitVec.toNat_mul, m, s, Nat.mod_eq_of_lt (a := x.toNat % 4294967296 * (y.toNat / 4294967296)) (by omega)]
  exact Nat.mod_eq_of_lt h3
 have e4 : ((x >>> 32) * (y >>> 32)).toNat = x.toNat / 4294967296 * (y.toNat / 4294967296) := by
  rw [BitVec.toNat_mul, s, s]; exact Nat.mod_eq_of_lt (by omega)
 have e5 : ((x >>> 32) * (y >>> 32) + T >>> 32).toNat = x.toNat / 4294967296 * (y.toNat / 4294967296) + T.toNat / 4294967296 := by
  rw [BitVec.toNat_add, e4, s]; exact Nat.mod_eq_of_lt (by rw [e2]; omega)
 rw [BitVec.toNat_add, s, e3, e5, e2]
 rw [Nat.mod_eq_of_lt (by omega)]
 omega
attribute [local go_sem ↓] Bv.xor_n64 Bv.and_n64 Bv.or_n64 Bv.add_n64 Bv.sub_n64 Bv.mul_n64 Bv.shl_n64 Bv.shr_n64
attribute [local go_sem] Bv.of_n64
/-- The high and the low word of a product. -/
def mulHi (x y : BitVec 64) : BitVec 64 := BitVec.ofNat 64 (x.toNat * y.toNat / 18446744073709551616)
set_option maxHeartbeats 400000 in
theorem mul64_any (x y : BitVec 64) (w : World) : Calls Tryz.prog 85 #[.int .u64 (n64 x), .int .u64 (n64 y)] w fun e w' => e = .returned (.tuple #[.int .u64 (n64 (mulHi x y)), .int .u64 (n64 (x * y))]) ∧ w = w' := by
 have v := mul64_val x y
 have V : Hid (_ = mulHi x y) := Lib.hid (BitVec.eq_of_toNat_eq (v.trans (show _ = (mulHi x y).toNat from by
  have := Nat.mul_lt_mul'' x.isLt y.isLt
  unfold mulHi; rw [BitVec.toNat_ofNat]; exact (Nat.mod_eq_of_lt (by omega)).symm)))
 clear v
 go_enter Tryz.func85, Tryz.ntmps85
 go_wp2
 go_ret2
 exact ⟨by rw [← V.out]; rfl, rfl⟩
def carry (x y : BitVec 64) : BitVec 64 := BitVec.ofNat 64 ((x.toNat + y.toNat) / 18446744073709551616)
theorem add64_run (x y : BitVec 64) (w : World) : (callFunc 104 #[.int .u64 (n64 x), .int .u64 (n64 y), .int .u64 0]).run Tryz.prog w = .ok (.value (.tuple #[.int .u64 (n64 (x + y)), .int .u64 (n64 (carry x y))])) w := by
 rw [run_callFunc_extern Tryz.func104 (by kernel_rfl) (by kernel_rfl) (by kernel_rfl) (e := add64Entry) (by kernel_rfl), run_add64 _ _ 0 (Bv.n64_lo x) (Bv.n64_lo y) (by omega) (by omega)]
 simp only [Result.andThen]
 have e1 : (n64 x + n64 y + 0) % 18446744073709551616 = n64 (x + y) := by
  unfold n64; rw [BitVec.toNat_add]; omega
 have e2 : (n64 x + n64 y + 0) / 18446744073709551616 = n64 (carry x y) := by
  have := x.isLt
  have := y.isLt
  unfold n64 carry; rw [BitVec.toNat_ofNat, Nat.mod_eq_of_lt (by omega)]; omega
 rw [e1, e2]
def timesW (a : List (BitVec 64)) (n : BitVec 64) : List (BitVec 64) :=
 match a with
 | [a0, a1, a2] =>
  let k1 := mulHi a0 n + carry (a0 * n) 0#64
  let k2 := mulHi a1 n + carry (a1 * n) k1
  [a0 * n, a1 * n + k1, a2 * n + k2]
 | a => a
def v64 (x : BitVec 64) : Value := .int .u64 (n64 x)
attribute [local irreducible] mulHi carry
set_option maxHeartbeats 1000000 in
theorem times_any (a0 a1 a2 n : BitVec 64) (w : World) : Calls Tryz.prog 97 #[.agg #[.int .u64 (n64 a0), .int .u64 (n64 a1), .int .u64 (n64 a2)], .int .u64 (n64 n)] w fun e w' =>
  e = .returned (.agg ((timesW [a0, a1, a2] n).map v64).toArray) ∧ Below w.heap.size w w' := by
 have hx0 : ∀ wx, (Instr.index 173 (.agg #[.int .u64 (n64 a0), .int .u64 (n64 a1), .int .u64 (n64 a2)]) (.int .i64 0)).run Tryz.prog wx = .ok (.int .u64 (n64 a0)) wx := fun wx => Li.run_index (P := Tryz.prog) (t := 173) (e := 90) Tryz.underlying173 Tryz.underlying90 (by kernel_rfl) [.int .u64 (n64 a0), .int .u64 (n64 a1), .int .u64 (n64 a2)] 0 (by omega) rfl wx
 have hx1 : ∀ wx, (Instr.index 173 (.agg #[.int .u64 (n64 a0), .int .u64 (n64 a1), .int .u64 (n64 a2)]) (.int .i64 1)).run Tryz.prog wx = .ok (.int .u64 (n64 a1)) wx := fun wx => Li.run_index (P := Tryz.prog) (t := 173) (e := 90) Tryz.underlying173 Tryz.underlying90 (by kernel_rfl) [.int .u64 (n64 a0), .int .u64 (n64 a1), .int .u64 (n64 a2)] 1 (by omega) rfl wx
 have hx2 : ∀ wx, (Instr.index 173 (.agg #[.int .u64 (n64 a0), .int .u64 (n64 a1), .int .u64 (n64 a2)]) (.int .i64 2)).run Tryz.prog wx = .ok (.int .u64 (n64 a2)) wx := fun wx => Li.run_index (P := Tryz.prog) (t := 173) (e := 90) Tryz.underlying173 Tryz.underlying90 (by kernel_rfl) [.int .u64 (n64 a0), .int .u64 (n64 a1), .int .u64 (n64 a2)] 2 (by omega) rfl wx
 have z0 : (0 : Int) = n64 0#64 := rfl
 have had := fun x y wx => add64_run x y wx
 have had0 := fun x wx => add64_run x 0#64 wx
 rw [← z0] at had0
 clear z0
 go_enter Tryz.func97, Tryz.ntmps97
 go_wp2_with fail
 refine wp_loop_rounds 4 ?_
 rw [rounds_succ]
 go_wp2_with (first | (go_at_call 85; refine (mul64_any _ _ _).mono ?_; rintro e w' ⟨rfl, rfl⟩))
 rw [rounds_succ]
 go_wp2_with (first | (go_at_call 85; refine (mul64_any _ _ _).mono ?_; rintro e w' ⟨rfl, rfl⟩))
 rw [rounds_succ]
 go_wp2_with (first | (go_at_call 85; refine (mul64_any _ _ _).mono ?_; rintro e w' ⟨rfl, rfl⟩))
 rw [rounds_succ]
 go_wp2_with fail
 refine bodyPost_ret (v := .agg #[_, _, _]) (by simp [results, Tryz.results97, go_sem]; exact ⟨rfl, rfl, rfl⟩) rfl ⟨?_, ?_⟩
 ·rfl
 ·exact ((Below.refl _ _).alloc (Nat.le_refl _) _).alloc (by simp) _
/-! above -/
def orI : List Int → Int
 | [] => 0
 | x :: r => if x = 0 then orI r else x
set_option maxHeartbeats 400000 in
theorem or_any (a b c : Int) (g cap : Nat) (w : World) (h0 : w.cell? ⟨g, 0, none⟩ = some (.int .i64 a)) (h1 : w.cell? ⟨g, 1, none⟩ = some (.int .i64 b)) (h2 : w.cell? ⟨g, 2, none⟩ = some (.int .i64 c)) :
  Calls Tryz.prog 108 #[.slice (some ⟨g, 0, none⟩) 3 cap] w fun e w' => e = .returned (.int .i64 (orI [a, b, c])) ∧ w = w' := by
 by_cases ha : a = 0
 ·subst ha
  by_cases hb : b = 0
  ·subst hb
   by_cases hc : c = 0
   ·subst hc
    go_enter Tryz.func108, Tryz.ntmps108
    go_wp2
    go_rounds 4
    go_ret
    exact ⟨rfl, rfl⟩
   ·have hc' : (c != 0) = true := by simpa using hc
    have e : orI [0, 0, c] = c := by simp [orI, hc]
    have H := Lib.hid e
    clear e hc
    go_enter Tryz.func108, Tryz.ntmps108
    go_wp2
    go_rounds 4
    go_ret
    exact ⟨by rw [H.out]; rfl, rfl⟩
  ·have hb' : (b != 0) = true := by simpa using hb
   have e : orI [0, b, c] = b := by simp [orI, hb]
   have H := Lib.hid e
   clear e hb
   go_enter Tryz.func108, Tryz.ntmps108
   go_wp2
   go_rounds 4
   go_ret
   exact ⟨by rw [H.out]; rfl, rfl⟩
 ·have ha' : (a != 0) = true := by simpa using ha
  have e : orI [a, b, c] = a := by simp [orI, ha]
  have H := Lib.hid e
  clear e ha
  go_enter Tryz.func108, Tryz.ntmps108
  go_wp2
  go_rounds 4
  go_ret
  exact ⟨by rw [H.out]; rfl, rfl⟩
def aboveW (a b : List (BitVec 64)) : Bool :=
 match a, b with
 | [a0, a1, a2], [b0, b1, b2] => decide (0 < orI [cmpI (n64 a2) (n64 b2), cmpI (n64 a1) (n64 b1), cmpI (n64 a0) (n64 b0)])
 | _, _ => false
set_option maxHeartbeats 1000000 in
theorem above_any (a0 a1 a2 b0 b1 b2 : BitVec 64) (w : World) : Calls Tryz.prog 105 #[.agg #[.int .u64 (n64 a0), .int .u64 (n64 a1), .int .u64 (n64 a2)], .agg #[.int .u64 (n64 b0), .int .u64 (n64 b1), .int .u64 (n64 b2)]] w fun e w' =>
  e = .returned (.bool (aboveW [a0, a1, a2] [b0, b1, b2])) ∧ Below w.heap.size w w' := by
 obtain ⟨c2, h2⟩ : ∃ c, c = cmpI (n64 a2) (n64 b2) := ⟨_, rfl⟩
 obtain ⟨c1, h1⟩ : ∃ c, c = cmpI (n64 a1) (n64 b1) := ⟨_, rfl⟩
 obtain ⟨c0, h0⟩ : ∃ c, c = cmpI (n64 a0) (n64 b0) := ⟨_, rfl⟩
 have H2 := Lib.hid h2
 have H1 := Lib.hid h1
 have H0 := Lib.hid h0
 clear h2 h1 h0
 go_enter Tryz.func105, Tryz.ntmps105
 go_wp2_with fail
 refine Hv.grow 19 (fun | 4 => some (Hv.con (.int .i64 c2)) | 9 => some (Hv.con (.int .i64 c1)) | 14 => some (Hv.con (.int .i64 c0)) | 15 => some (Hv.row [.int .i64 c2, .int .i64 c1, .int .i64 c0] 3) | 16 => some (Hv.con (.int .i64 (orI [c2, c1, c0]))) | _ => none)
  (fun | 16 => [[15, 16]] | _ => []) (by kernel_rfl) (by kernel_rfl) ?_ ?_
 ·intro i m hm v wa wb hR hv
  split at hm <;> first | cases hm | skip
  all_goals first | exact Hv.row_st hR hv | exact Hv.con_st hR hv | exact Nown_st hR hv | exact Nparts_st hR hv
 ·change Hv.HW _ _ _ _ _ _ _ [0, 1, 2, 3, 4, 5, 6, 7, 8, 9, 10, 11, 12, 13, 14, 15, 16, 17, 18] _ _
  iterate 4 (refine Hv.pure (v := ?_) (by rfl) (by rfl) (by rfl) (fun wx hS => ?_) ?_; rotate_left; (focus (have hc := hS.cells.1; have hz := hS.cells.2; go_simp; (first | done | with_reducible rfl))); (try simp only [Act.put, List.setIfInBounds_toArray, List.set_cons_zero, List.set_cons_succ]))
  refine Hv.noise (m := _) (by rfl) (by rfl) (by rfl) (Hv.con_ex _) (fun wx hS hf => ?_) (fun v hv => ?_)
  ·unfold Hv.Gives
   go_simp
   refine (compare_eq H2.out _).mono ?_
   rintro e w' ⟨rfl, rfl⟩
   exact ⟨_, rfl, Hv.Ext.refl _, rfl, trivial⟩
  obtain rfl := hv
  (try simp only [Act.put, List.setIfInBounds_toArray, List.set_cons_zero, List.set_cons_succ])
  iterate 4 (refine Hv.pure (v := ?_) (by rfl) (by rfl) (by rfl) (fun wx hS => ?_) ?_; rotate_left; (focus (have hc := hS.cells.1; have hz := hS.cells.2; go_simp; (first | done | with_reducible rfl))); (try simp only [Act.put, List.setIfInBounds_toArray, List.set_cons_zero, List.set_cons_succ]))
  refine Hv.noise (m := _) (by rfl) (by rfl) (by rfl) (Hv.con_ex _) (fun wx hS hf => ?_) (fun v hv => ?_)
  ·unfold Hv.Gives
   go_simp
   refine (compare_eq H1.out _).mono ?_
   rintro e w' ⟨rfl, rfl⟩
   exact ⟨_, rfl, Hv.Ext.refl _, rfl, trivial⟩
  obtain rfl := hv
  (try simp only [Act.put, List.setIfInBounds_toArray, List.set_cons_zero, List.set_cons_succ])
  iterate 4 (refine Hv.pure (v := ?_) (by rfl) (by rfl) (by rfl) (fun wx hS => ?_) ?_; rotate_left; (focus (have hc := hS.cells.1; have hz := hS.cells.2; go_simp; (first | done | with_reducible rfl))); (try simp only [Act.put, List.setIfInBounds_toArray, List.set_cons_zero, List.set_cons_succ]))
  refine Hv.noise (m := _) (by rfl) (by rfl) (by rfl) (Hv.con_ex _) (fun wx hS hf => ?_) (fun v hv => ?_)
  ·unfold Hv.Gives
   go_simp
   refine (compare_eq H0.out _).mono ?_
   rintro e w' ⟨rfl, rfl⟩
   exact ⟨_, rfl, Hv.Ext.refl _, rfl, trivial⟩
  obtain rfl := hv
  (try simp only [Act.put, List.setIfInBounds_toArray, List.set_cons_zero, List.set_cons_succ])
  refine Hv.noise (m := _) (by rfl) (by rfl) (by rfl) (Hv.row_ex _ _) (fun wx hS hf => ?_) (fun v hv => ?_)
  ·unfold Hv.Gives
   go_simp
   exact Hv.row_new wx [.int .i64 c2, .int .i64 c1, .int .i64 c0] 3
  obtain ⟨_, rfl⟩ := hv
  (try simp only [Act.put, List.setIfInBounds_toArray, List.set_cons_zero, List.set_cons_succ])
  refine Hv.noise (m := _) (by rfl) (by rfl) (by rfl) (Hv.con_ex _) (fun wx hS hf => ?_) (fun v hv => ?_)
  ·have h1 := hf _ List.mem_cons_self ⟨[15, 16], List.mem_cons_self, rfl⟩ _ _ _ rfl
   unfold Hv.Gives
   go_simp
   refine (or_any c2 c1 c0 _ _ _ ((cell_of_row _ _ 0 _ _ _ h1).trans rfl) ((cell_of_row _ _ 1 _ _ _ h1).trans rfl) ((cell_of_row _ _ 2 _ _ _ h1).trans rfl)).mono ?_
   rintro e w' ⟨rfl, rfl⟩
   exact ⟨_, rfl, Hv.Ext.refl _, rfl, trivial⟩
  obtain rfl := hv
  (try simp only [Act.put, List.setIfInBounds_toArray, List.set_cons_zero, List.set_cons_succ])
  iterate 2 (refine Hv.pure (v := ?_) (by rfl) (by rfl) (by rfl) (fun wx hS => ?_) ?_; rotate_left; (focus (have hc := hS.cells.1; have hz := hS.cells.2; go_simp; (first | done | with_reducible rfl))); (try simp only [Act.put, List.setIfInBounds_toArray, List.set_cons_zero, List.set_cons_succ]))
  refine Hv.done (fun wx hS _ => ?_)
  simp only [List.drop_succ_cons, List.drop_nil]
  go_wp2_with fail
  go_ret
  have e : aboveW [a0, a1, a2] [b0, b1, b2] = decide (0 < orI [c2, c1, c0]) := by rw [H2.out, H1.out, H0.out]; rfl
  rw [e]
  refine ⟨rfl, ?_⟩
  exact Hv.Ext.below (((Below.refl _ _).alloc (Nat.le_refl _) _).alloc (by simp) _) hS (by simp only [World.size_alloc]; omega)
end Sha
end Go.Proofs.YtakdoijemopejaaGreat


/- Walks of the roots and of the constants of sha. -/
import Derived.Test.YtakdoijemopejaaGreatShaPrimes
set_option maxRecDepth 100000
set_option linter.unusedSimpArgs false
set_option linter.unusedVariables false
namespace Go.Proofs.YtakdoijemopejaaGreat
open Go.RowKit
namespace Sha
open Bv (n8 n16 n32 n64)
attribute [local go_sem ↓] Bv.xor_n64 Bv.and_n64 Bv.or_n64 Bv.add_n64 Bv.sub_n64 Bv.mul_n64 Bv.shl_n64 Bv.shr_n64
attribute [local go_sem] Bv.of_n64
attribute [local irreducible] mulHi carry
/-! the words of a product -/
def tw1 (a0 a1 n : BitVec 64) : BitVec 64 := a1 * n + (mulHi a0 n + carry (a0 * n) 0#64)
def tw2 (a0 a1 a2 n : BitVec 64) : BitVec 64 := a2 * n + (mulHi a1 n + carry (a1 * n) (mulHi a0 n + carry (a0 * n) 0#64))
theorem times_words (a0 a1 a2 n : BitVec 64) (w : World) : Calls Tryz.prog 97 #[.agg #[.int .u64 (n64 a0), .int .u64 (n64 a1), .int .u64 (n64 a2)], .int .u64 (n64 n)] w fun e w' =>
  e = .returned (.agg #[.int .u64 (n64 (a0 * n)), .int .u64 (n64 (tw1 a0 a1 n)), .int .u64 (n64 (tw2 a0 a1 a2 n))]) ∧ Below w.heap.size w w' := times_any a0 a1 a2 n w
def sq1 (x : BitVec 64) : BitVec 64 := tw1 x 0#64 x
def sq2 (x : BitVec 64) : BitVec 64 := tw2 x 0#64 0#64 x
def squareW (x : BitVec 64) : List (BitVec 64) := [x * x, sq1 x, sq2 x]
def cu1 (x : BitVec 64) : BitVec 64 := tw1 (x * x) (sq1 x) x
def cu2 (x : BitVec 64) : BitVec 64 := tw2 (x * x) (sq1 x) (sq2 x) x
def cubeW (x : BitVec 64) : List (BitVec 64) := [x * x * x, cu1 x, cu2 x]
set_option maxHeartbeats 400000 in
theorem square_any (x : BitVec 64) (w : World) : Calls Tryz.prog 99 #[.int .u64 (n64 x)] w fun e w' => e = .returned (.agg #[.int .u64 (n64 (x * x)), .int .u64 (n64 (sq1 x)), .int .u64 (n64 (sq2 x))]) ∧ Below w.heap.size w w' := by
 have T := Lib.hid (fun wx => times_words x 0#64 0#64 x wx)
 go_enter Tryz.func99, Tryz.ntmps99
 go_wp2_with (first
  | (go_at_call 97; refine Calls.mono (T.out _) ?_; rintro e w1 ⟨rfl, hb1⟩)
  | ((with_reducible show wpList _ _ _ (⟨none, _, _, _, _, _⟩ :: _) _ _); refine Li.wpList_store_blk rfl 173 (.tmp 2) (.tmp 6) rfl w.heap.size (vs := _) (by rfl) (by rfl) (l := [.int .u64 0, .int .u64 0, .int .u64 0]) (t := 173) ?_ ?_ ?_ ?_ ?_; exact Li.Blk.grow (Li.Blk.new' rfl) hb1; rfl; kernel_rfl; (intro v hv; simp at hv; rcases hv with rfl | rfl | rfl <;> rfl)))
 have hB := Li.Blk.setAll (vs := [.int .u64 (n64 (x * x)), .int .u64 (n64 (sq1 x)), .int .u64 (n64 (sq2 x))]) (Li.Blk.grow (Li.Blk.new' (w := w) (l := [.int .u64 0, .int .u64 0, .int .u64 0]) (t := 173) rfl) hb1) rfl
 exact Li.bodyPost_blk rfl rfl hB Tryz.underlying173 rfl (by kernel_rfl) rfl ⟨rfl, Li.below_setCells _ _ _ _ (((Below.refl _ _).alloc (Nat.le_refl _) _).trans (hb1.mono (by simp))) (Nat.le_refl _)⟩
set_option maxHeartbeats 400000 in
theorem cube_any (x : BitVec 64) (w : World) : Calls Tryz.prog 96 #[.int .u64 (n64 x)] w fun e w' => e = .returned (.agg #[.int .u64 (n64 (x * x * x)), .int .u64 (n64 (cu1 x)), .int .u64 (n64 (cu2 x))]) ∧ Below w.heap.size w w' := by
 have T := Lib.hid (fun wx => times_words x 0#64 0#64 x wx)
 have T2 := Lib.hid (fun wx => times_words (x * x) (tw1 x 0#64 x) (tw2 x 0#64 0#64 x) x wx)
 go_enter Tryz.func96, Tryz.ntmps96
 go_wp2_with fail
 refine Calls.mono (T.out _) ?_
 rintro e w1 ⟨rfl, hb1⟩
 go_wp2_with fail
 refine Calls.mono (T2.out _) ?_
 rintro e w2 ⟨rfl, hb2⟩
 go_wp2_with ((with_reducible show wpList _ _ _ (⟨none, _, _, _, _, _⟩ :: _) _ _); refine Li.wpList_store_blk rfl 173 (.tmp 2) (.tmp 8) rfl w.heap.size (vs := _) (by rfl) (by rfl) (l := [.int .u64 0, .int .u64 0, .int .u64 0]) (t := 173) ?_ ?_ ?_ ?_ ?_; exact Li.Blk.grow (Li.Blk.grow (Li.Blk.new' rfl) hb1) hb2; rfl; kernel_rfl; (intro v hv; simp at hv; rcases hv with rfl | rfl | rfl <;> rfl))
 have hB := Li.Blk.setAll (vs := [.int .u64 (n64 (x * x * x)), .int .u64 (n64 (cu1 x)), .int .u64 (n64 (cu2 x))]) (Li.Blk.grow (Li.Blk.grow (Li.Blk.new' (w := w) (l := [.int .u64 0, .int .u64 0, .int .u64 0]) (t := 173) rfl) hb1) hb2) rfl
 exact Li.bodyPost_blk rfl rfl hB Tryz.underlying173 rfl (by kernel_rfl) rfl ⟨rfl, Li.below_setCells _ _ _ _ ((((Below.refl _ _).alloc (Nat.le_refl _) _).trans (hb1.mono (by simp))).trans (hb2.mono (Nat.le_trans (by simp) hb1.size))) (Nat.le_refl _)⟩
def cubeW0 (x : BitVec 64) : BitVec 64 := x * x * x
def cubeW1 (x : BitVec 64) : BitVec 64 := cu1 x
def cubeW2 (x : BitVec 64) : BitVec 64 := cu2 x
def squareW0 (x : BitVec 64) : BitVec 64 := x * x
def squareW1 (x : BitVec 64) : BitVec 64 := sq1 x
def squareW2 (x : BitVec 64) : BitVec 64 := sq2 x
theorem cube_eq (x : BitVec 64) (w : World) : Calls Tryz.prog 96 #[.int .u64 (n64 x)] w fun e w' => e = .returned (.agg #[.int .u64 (n64 (cubeW0 x)), .int .u64 (n64 (cubeW1 x)), .int .u64 (n64 (cubeW2 x))]) ∧ Below w.heap.size w w' := cube_any x w
theorem square_eq (x : BitVec 64) (w : World) : Calls Tryz.prog 99 #[.int .u64 (n64 x)] w fun e w' => e = .returned (.agg #[.int .u64 (n64 (squareW0 x)), .int .u64 (n64 (squareW1 x)), .int .u64 (n64 (squareW2 x))]) ∧ Below w.heap.size w w' := square_any x w
theorem above_cube (y l0 l1 l2 : BitVec 64) (t : Bool) (h : aboveW (cubeW y) [l0, l1, l2] = t) (w : World) : Calls Tryz.prog 105 #[.agg #[.int .u64 (n64 (cubeW0 y)), .int .u64 (n64 (cubeW1 y)), .int .u64 (n64 (cubeW2 y))], .agg #[.int .u64 (n64 l0), .int .u64 (n64 l1), .int .u64 (n64 l2)]] w fun e w' =>
  e = .returned (.bool t) ∧ Below w.heap.size w w' := by
 subst h; exact above_any (cubeW0 y) (cubeW1 y) (cubeW2 y) l0 l1 l2 w
theorem above_square (y l0 l1 l2 : BitVec 64) (t : Bool) (h : aboveW (squareW y) [l0, l1, l2] = t) (w : World) : Calls Tryz.prog 105 #[.agg #[.int .u64 (n64 (squareW0 y)), .int .u64 (n64 (squareW1 y)), .int .u64 (n64 (squareW2 y))], .agg #[.int .u64 (n64 l0), .int .u64 (n64 l1), .int .u64 (n64 l2)]] w fun e w' =>
  e = .returned (.bool t) ∧ Below w.heap.size w w' := by
 subst h; exact above_any (squareW0 y) (squareW1 y) (squareW2 y) l0 l1 l2 w
attribute [local irreducible] cubeW0 cubeW1 cubeW2 squareW0 squareW1 squareW2 cubeW squareW
def bitOf (k : Nat) : BitVec 64 := (1#64 <<< k) >>> 1
theorem bitOf_all : ∀ k : Fin 36, 0 < (bitOf (k.val + 1)).toNat ∧ bitOf (k.val + 1) >>> 1 = bitOf k.val := by decide
theorem bitOf_pos (k : Nat) (h : k < 36) : 0 < n64 (bitOf (k + 1)) := by
 have : 0 < (bitOf (k + 1)).toNat := (bitOf_all ⟨k, h⟩).1
 unfold n64; omega
theorem bitOf_shr (k : Nat) (h : k < 36) : bitOf (k + 1) >>> 1 = bitOf k := (bitOf_all ⟨k, h⟩).2
theorem bit36 : (34359738368 : Int) = n64 (bitOf 36) := by decide
theorem bit0 : ¬ (0 : Int) < n64 (bitOf 0) := by decide
def rootGo (f : BitVec 64 → List (BitVec 64)) (l : List (BitVec 64)) : Nat → BitVec 64 → BitVec 64
 | 0, x => x
 | k + 1, x => rootGo f l k (if aboveW (f (x ||| bitOf (k + 1))) l then x else x ||| bitOf (k + 1))
attribute [local irreducible] rootGo bitOf

set_option maxRecDepth 100000 in
set_option maxHeartbeats 2000000 in
theorem root_square (l0 l1 l2 : BitVec 64) (w : World) : Calls Tryz.prog 98 #[.agg #[.int .u64 (n64 l0), .int .u64 (n64 l1), .int .u64 (n64 l2)], .func (.func 99) #[] #[]] w fun e w' =>
  e = .returned (.int .u64 (n64 (rootGo squareW [l0, l1, l2] 36 0#64))) ∧ Below w.heap.size w w' := by
 obtain ⟨n, hn⟩ : ∃ n, n = w.heap.size := ⟨_, rfl⟩
 go_enter Tryz.func98, Tryz.ntmps98
 go_wp2_with fail
 have B0 : Li.Blk (w.alloc (.cells [.int .u64 (n64 l0), .int .u64 (n64 l1), .int .u64 (n64 l2)].toArray 173)) n [.int .u64 (n64 l0), .int .u64 (n64 l1), .int .u64 (n64 l2)] 173 := by subst hn; exact Li.Blk.new' rfl
 have BB : Below n w (w.alloc (.cells [.int .u64 (n64 l0), .int .u64 (n64 l1), .int .u64 (n64 l2)].toArray 173)) := by subst hn; exact (Below.refl _ _).alloc (Nat.le_refl _) _
 have HN := Lib.hid hn
 rw [← hn]
 clear hn
 go_loopg [4, 5] 36 (fun gh s4 s5 wr => ∃ (k : Nat) (x : BitVec 64), gh = k ∧ k ≤ 36 ∧ s4 = .int .u64 (n64 x) ∧ s5 = .int .u64 (n64 (bitOf k)) ∧ Hid (rootGo squareW [l0, l1, l2] k x = rootGo squareW [l0, l1, l2] 36 0#64) ∧ Li.Blk wr n [.int .u64 (n64 l0), .int .u64 (n64 l1), .int .u64 (n64 l2)] 173 ∧ Below n w wr)
 case atStart => exact ⟨36, 0#64, rfl, by omega, rfl, by rw [bit36], Lib.hid rfl, B0, BB⟩
 case round =>
  clear B0 BB
  obtain ⟨k, x, rfl, hk, rfl, rfl, hR, hB, hb⟩ := hrel
  cases gk with
  | zero =>
   have t1 := bit0
   go_wp2_with fail
   go_ret
   refine ⟨?_, by rw [← HN.out]; exact hb⟩
   rw [← hR.out, rootGo]; rfl
  | succ k =>
   have t1 : (0 : Int) < n64 (bitOf (k + 1)) := bitOf_pos k (by omega)
   have c0 := (hB.cell 0).trans (show _ = some (.int .u64 (n64 l0)) from rfl)
   have c1 := (hB.cell 1).trans (show _ = some (.int .u64 (n64 l1)) from rfl)
   have c2 := (hB.cell 2).trans (show _ = some (.int .u64 (n64 l2)) from rfl)
   have nl := hB.lt
   have sh := bitOf_shr k (by omega)
   obtain ⟨b, hbb⟩ : ∃ b, b = bitOf (k + 1) := ⟨_, rfl⟩
   rw [← hbb] at sh
   have hR2 : Hid (rootGo squareW [l0, l1, l2] (k + 1) x = rootGo squareW [l0, l1, l2] k (if aboveW (squareW (x ||| b)) [l0, l1, l2] then x else x ||| b)) := Lib.hid (by rw [rootGo, hbb])
   rw [← hbb] at t1
   rw [← hbb]
   have SH := Lib.hid sh
   have HB := Lib.hid hbb
   clear sh hbb
   go_wp2_with fail
   cases hab : aboveW (squareW (x ||| b)) [l0, l1, l2] with
   | true =>
    rw [hab] at hR2
    have HAB := Lib.hid hab
    clear hab
    have K := Lib.hid (fun wx => above_square (x ||| b) l0 l1 l2 true HAB.out wx)
    refine Hv.grow 8 (fun | 4 => some (Hv.con (.agg #[.int .u64 (n64 (squareW0 (x ||| b))), .int .u64 (n64 (squareW1 (x ||| b))), .int .u64 (n64 (squareW2 (x ||| b)))])) | 6 => some (Hv.con (.bool true)) | _ => none)
     (fun _ => []) (by kernel_rfl) (by kernel_rfl) ?_ ?_
    ·intro i m hm v wa wb hR hv
     split at hm <;> first | cases hm | skip
     all_goals first | exact Hv.row_st hR hv | exact Hv.con_st hR hv | exact Nown_st hR hv | exact Nparts_st hR hv
    ·change Hv.HW _ _ _ _ _ _ _ [0, 1, 2, 3, 4, 5, 6, 7] _ _
     iterate 4 (refine Hv.pure (v := ?_) (by rfl) (by rfl) (by rfl) (fun wx hS => ?_) ?_; rotate_left; (focus (have hc := hS.cells.1; have hz := hS.cells.2; go_simp; (first | done | with_reducible rfl))); (try simp only [Act.put, List.setIfInBounds_toArray, List.set_cons_zero, List.set_cons_succ]))
     refine Hv.noise (m := _) (by rfl) (by rfl) (by rfl) (Hv.con_ex _) (fun wx hS hf => ?_) (fun v hv => ?_)
     ·unfold Hv.Gives
      go_simp
      refine (square_eq _ _).mono ?_
      rintro e w' ⟨rfl, hb⟩
      exact ⟨_, rfl, hb, rfl, trivial⟩
     obtain rfl := hv
     (try simp only [Act.put, List.setIfInBounds_toArray, List.set_cons_zero, List.set_cons_succ])
     iterate 1 (refine Hv.pure (v := ?_) (by rfl) (by rfl) (by rfl) (fun wx hS => ?_) ?_; rotate_left; (focus (have hc := hS.cells.1; have hz := hS.cells.2; go_simp; (first | done | with_reducible rfl))); (try simp only [Act.put, List.setIfInBounds_toArray, List.set_cons_zero, List.set_cons_succ]))
     refine Hv.noise (m := _) (by rfl) (by rfl) (by rfl) (Hv.con_ex _) (fun wx hS hf => ?_) (fun v hv => ?_)
     ·unfold Hv.Gives
      go_simp
      refine (Calls.mono (K.out _) (fun _ _ h => h)).mono ?_
      rintro e w' ⟨rfl, hb⟩
      exact ⟨_, rfl, hb, rfl, trivial⟩
     obtain rfl := hv
     (try simp only [Act.put, List.setIfInBounds_toArray, List.set_cons_zero, List.set_cons_succ])
     iterate 1 (refine Hv.pure (v := ?_) (by rfl) (by rfl) (by rfl) (fun wx hS => ?_) ?_; rotate_left; (focus (have hc := hS.cells.1; have hz := hS.cells.2; go_simp; (first | done | with_reducible rfl))); (try simp only [Act.put, List.setIfInBounds_toArray, List.set_cons_zero, List.set_cons_succ]))
     refine Hv.done (fun wx hS _ => ?_)
     simp only [List.drop_succ_cons, List.drop_nil]
     have hB1 := hB.grow hS
     have hb1 := Hv.Ext.below hb hS (by omega)
     clear hB hb c0 c1 c2
     go_wp2_with fail
     go_roundg k
     case measure => omega
     case rel => exact ⟨k, x, rfl, by omega, rfl, by rw [SH.out], Lib.hid (by rw [← hR2.out.symm.trans hR.out]; rfl), hB1, hb1⟩
   | false =>
    rw [hab] at hR2
    have HAB := Lib.hid hab
    clear hab
    have K := Lib.hid (fun wx => above_square (x ||| b) l0 l1 l2 false HAB.out wx)
    refine Hv.grow 8 (fun | 4 => some (Hv.con (.agg #[.int .u64 (n64 (squareW0 (x ||| b))), .int .u64 (n64 (squareW1 (x ||| b))), .int .u64 (n64 (squareW2 (x ||| b)))])) | 6 => some (Hv.con (.bool false)) | _ => none)
     (fun _ => []) (by kernel_rfl) (by kernel_rfl) ?_ ?_
    ·intro i m hm v wa wb hR hv
     split at hm <;> first | cases hm | skip
     all_goals first | exact Hv.row_st hR hv | exact Hv.con_st hR hv | exact Nown_st hR hv | exact Nparts_st hR hv
    ·change Hv.HW _ _ _ _ _ _ _ [0, 1, 2, 3, 4, 5, 6, 7] _ _
     iterate 4 (refine Hv.pure (v := ?_) (by rfl) (by rfl) (by rfl) (fun wx hS => ?_) ?_; rotate_left; (focus (have hc := hS.cells.1; have hz := hS.cells.2; go_simp; (first | done | with_reducible rfl))); (try simp only [Act.put, List.setIfInBounds_toArray, List.set_cons_zero, List.set_cons_succ]))
     refine Hv.noise (m := _) (by rfl) (by rfl) (by rfl) (Hv.con_ex _) (fun wx hS hf => ?_) (fun v hv => ?_)
     ·unfold Hv.Gives
      go_simp
      refine (square_eq _ _).mono ?_
      rintro e w' ⟨rfl, hb⟩
      exact ⟨_, rfl, hb, rfl, trivial⟩
     obtain rfl := hv
     (try simp only [Act.put, List.setIfInBounds_toArray, List.set_cons_zero, List.set_cons_succ])
     iterate 1 (refine Hv.pure (v := ?_) (by rfl) (by rfl) (by rfl) (fun wx hS => ?_) ?_; rotate_left; (focus (have hc := hS.cells.1; have hz := hS.cells.2; go_simp; (first | done | with_reducible rfl))); (try simp only [Act.put, List.setIfInBounds_toArray, List.set_cons_zero, List.set_cons_succ]))
     refine Hv.noise (m := _) (by rfl) (by rfl) (by rfl) (Hv.con_ex _) (fun wx hS hf => ?_) (fun v hv => ?_)
     ·unfold Hv.Gives
      go_simp
      refine (Calls.mono (K.out _) (fun _ _ h => h)).mono ?_
      rintro e w' ⟨rfl, hb⟩
      exact ⟨_, rfl, hb, rfl, trivial⟩
     obtain rfl := hv
     (try simp only [Act.put, List.setIfInBounds_toArray, List.set_cons_zero, List.set_cons_succ])
     iterate 1 (refine Hv.pure (v := ?_) (by rfl) (by rfl) (by rfl) (fun wx hS => ?_) ?_; rotate_left; (focus (have hc := hS.cells.1; have hz := hS.cells.2; go_simp; (first | done | with_reducible rfl))); (try simp only [Act.put, List.setIfInBounds_toArray, List.set_cons_zero, List.set_cons_succ]))
     refine Hv.done (fun wx hS _ => ?_)
     simp only [List.drop_succ_cons, List.drop_nil]
     have hB1 := hB.grow hS
     have hb1 := Hv.Ext.below hb hS (by omega)
     clear hB hb c0 c1 c2
     go_wp2_with fail
     go_roundg k
     case measure => omega
     case rel => exact ⟨k, x ||| b, rfl, by omega, rfl, by rw [SH.out], Lib.hid (by rw [← hR2.out.symm.trans hR.out]; rfl), hB1, hb1⟩


set_option maxRecDepth 100000 in
set_option maxHeartbeats 2000000 in
theorem root_cube (l0 l1 l2 : BitVec 64) (w : World) : Calls Tryz.prog 98 #[.agg #[.int .u64 (n64 l0), .int .u64 (n64 l1), .int .u64 (n64 l2)], .func (.func 96) #[] #[]] w fun e w' =>
  e = .returned (.int .u64 (n64 (rootGo cubeW [l0, l1, l2] 36 0#64))) ∧ Below w.heap.size w w' := by
 obtain ⟨n, hn⟩ : ∃ n, n = w.heap.size := ⟨_, rfl⟩
 go_enter Tryz.func98, Tryz.ntmps98
 go_wp2_with fail
 have B0 : Li.Blk (w.alloc (.cells [.int .u64 (n64 l0), .int .u64 (n64 l1), .int .u64 (n64 l2)].toArray 173)) n [.int .u64 (n64 l0), .int .u64 (n64 l1), .int .u64 (n64 l2)] 173 := by subst hn; exact Li.Blk.new' rfl
 have BB : Below n w (w.alloc (.cells [.int .u64 (n64 l0), .int .u64 (n64 l1), .int .u64 (n64 l2)].toArray 173)) := by subst hn; exact (Below.refl _ _).alloc (Nat.le_refl _) _
 have HN := Lib.hid hn
 rw [← hn]
 clear hn
 go_loopg [4, 5] 36 (fun gh s4 s5 wr => ∃ (k : Nat) (x : BitVec 64), gh = k ∧ k ≤ 36 ∧ s4 = .int .u64 (n64 x) ∧ s5 = .int .u64 (n64 (bitOf k)) ∧ Hid (rootGo cubeW [l0, l1, l2] k x = rootGo cubeW [l0, l1, l2] 36 0#64) ∧ Li.Blk wr n [.int .u64 (n64 l0), .int .u64 (n64 l1), .int .u64 (n64 l2)] 173 ∧ Below n w wr)
 case atStart => exact ⟨36, 0#64, rfl, by omega, rfl, by rw [bit36], Lib.hid rfl, B0, BB⟩
 case round =>
  clear B0 BB
  obtain ⟨k, x, rfl, hk, rfl, rfl, hR, hB, hb⟩ := hrel
  cases gk with
  | zero =>
   have t1 := bit0
   go_wp2_with fail
   go_ret
   refine ⟨?_, by rw [← HN.out]; exact hb⟩
   rw [← hR.out, rootGo]; rfl
  | succ k =>
   have t1 : (0 : Int) < n64 (bitOf (k + 1)) := bitOf_pos k (by omega)
   have c0 := (hB.cell 0).trans (show _ = some (.int .u64 (n64 l0)) from rfl)
   have c1 := (hB.cell 1).trans (show _ = some (.int .u64 (n64 l1)) from rfl)
   have c2 := (hB.cell 2).trans (show _ = some (.int .u64 (n64 l2)) from rfl)
   have nl := hB.lt
   have sh := bitOf_shr k (by omega)
   obtain ⟨b, hbb⟩ : ∃ b, b = bitOf (k + 1) := ⟨_, rfl⟩
   rw [← hbb] at sh
   have hR2 : Hid (rootGo cubeW [l0, l1, l2] (k + 1) x = rootGo cubeW [l0, l1, l2] k (if aboveW (cubeW (x ||| b)) [l0, l1, l2] then x else x ||| b)) := Lib.hid (by rw [rootGo, hbb])
   rw [← hbb] at t1
   rw [← hbb]
   have SH := Lib.hid sh
   have HB := Lib.hid hbb
   clear sh hbb
   go_wp2_with fail
   cases hab : aboveW (cubeW (x ||| b)) [l0, l1, l2] with
   | true =>
    rw [hab] at hR2
    have HAB := Lib.hid hab
    clear hab
    have K := Lib.hid (fun wx => above_cube (x ||| b) l0 l1 l2 true HAB.out wx)
    refine Hv.grow 8 (fun | 4 => some (Hv.con (.agg #[.int .u64 (n64 (cubeW0 (x ||| b))), .int .u64 (n64 (cubeW1 (x ||| b))), .int .u64 (n64 (cubeW2 (x ||| b)))])) | 6 => some (Hv.con (.bool true)) | _ => none)
     (fun _ => []) (by kernel_rfl) (by kernel_rfl) ?_ ?_
    ·intro i m hm v wa wb hR hv
     split at hm <;> first | cases hm | skip
     all_goals first | exact Hv.row_st hR hv | exact Hv.con_st hR hv | exact Nown_st hR hv | exact Nparts_st hR hv
    ·change Hv.HW _ _ _ _ _ _ _ [0, 1, 2, 3, 4, 5, 6, 7] _ _
     iterate 4 (refine Hv.pure (v := ?_) (by rfl) (by rfl) (by rfl) (fun wx hS => ?_) ?_; rotate_left; (focus (have hc := hS.cells.1; have hz := hS.cells.2; go_simp; (first | done | with_reducible rfl))); (try simp only [Act.put, List.setIfInBounds_toArray, List.set_cons_zero, List.set_cons_succ]))
     refine Hv.noise (m := _) (by rfl) (by rfl) (by rfl) (Hv.con_ex _) (fun wx hS hf => ?_) (fun v hv => ?_)
     ·unfold Hv.Gives
      go_simp
      refine (cube_eq _ _).mono ?_
      rintro e w' ⟨rfl, hb⟩
      exact ⟨_, rfl, hb, rfl, trivial⟩
     obtain rfl := hv
     (try simp only [Act.put, List.setIfInBounds_toArray, List.set_cons_zero, List.set_cons_succ])
     iterate 1 (refine Hv.pure (v := ?_) (by rfl) (by rfl) (by rfl) (fun wx hS => ?_) ?_; rotate_left; (focus (have hc := hS.cells.1; have hz := hS.cells.2; go_simp; (first | done | with_reducible rfl))); (try simp only [Act.put, List.setIfInBounds_toArray, List.set_cons_zero, List.set_cons_succ]))
     refine Hv.noise (m := _) (by rfl) (by rfl) (by rfl) (Hv.con_ex _) (fun wx hS hf => ?_) (fun v hv => ?_)
     ·unfold Hv.Gives
      go_simp
      refine (Calls.mono (K.out _) (fun _ _ h => h)).mono ?_
      rintro e w' ⟨rfl, hb⟩
      exact ⟨_, rfl, hb, rfl, trivial⟩
     obtain rfl := hv
     (try simp only [Act.put, List.setIfInBounds_toArray, List.set_cons_zero, List.set_cons_succ])
     iterate 1 (refine Hv.pure (v := ?_) (by rfl) (by rfl) (by rfl) (fun wx hS => ?_) ?_; rotate_left; (focus (have hc := hS.cells.1; have hz := hS.cells.2; go_simp; (first | done | with_reducible rfl))); (try simp only [Act.put, List.setIfInBounds_toArray, List.set_cons_zero, List.set_cons_succ]))
     refine Hv.done (fun wx hS _ => ?_)
     simp only [List.drop_succ_cons, List.drop_nil]
     have hB1 := hB.grow hS
     have hb1 := Hv.Ext.below hb hS (by omega)
     clear hB hb c0 c1 c2
     go_wp2_with fail
     go_roundg k
     case measure => omega
     case rel => exact ⟨k, x, rfl, by omega, rfl, by rw [SH.out], Lib.hid (by rw [← hR2.out.symm.trans hR.out]; rfl), hB1, hb1⟩
   | false =>
    rw [hab] at hR2
    have HAB := Lib.hid hab
    clear hab
    have K := Lib.hid (fun wx => above_cube (x ||| b) l0 l1 l2 false HAB.out wx)
    refine Hv.grow 8 (fun | 4 => some (Hv.con (.agg #[.int .u64 (n64 (cubeW0 (x ||| b))), .int .u64 (n64 (cubeW1 (x ||| b))), .int .u64 (n64 (cubeW2 (x ||| b)))])) | 6 => some (Hv.con (.bool false)) | _ => none)
     (fun _ => []) (by kernel_rfl) (by kernel_rfl) ?_ ?_
    ·intro i m hm v wa wb hR hv
     split at hm <;> first | cases hm | skip
     all_goals first | exact Hv.row_st hR hv | exact Hv.con_st hR hv | exact Nown_st hR hv | exact Nparts_st hR hv
    ·change Hv.HW _ _ _ _ _ _ _ [0, 1, 2, 3, 4, 5, 6, 7] _ _
     iterate 4 (refine Hv.pure (v := ?_) (by rfl) (by rfl) (by rfl) (fun wx hS => ?_) ?_; rotate_left; (focus (have hc := hS.cells.1; have hz := hS.cells.2; go_simp; (first | done | with_reducible rfl))); (try simp only [Act.put, List.setIfInBounds_toArray, List.set_cons_zero, List.set_cons_succ]))
     refine Hv.noise (m := _) (by rfl) (by rfl) (by rfl) (Hv.con_ex _) (fun wx hS hf => ?_) (fun v hv => ?_)
     ·unfold Hv.Gives
      go_simp
      refine (cube_eq _ _).mono ?_
      rintro e w' ⟨rfl, hb⟩
      exact ⟨_, rfl, hb, rfl, trivial⟩
     obtain rfl := hv
     (try simp only [Act.put, List.setIfInBounds_toArray, List.set_cons_zero, List.set_cons_succ])
     iterate 1 (refine Hv.pure (v := ?_) (by rfl) (by rfl) (by rfl) (fun wx hS => ?_) ?_; rotate_left; (focus (have hc := hS.cells.1; have hz := hS.cells.2; go_simp; (first | done | with_reducible rfl))); (try simp only [Act.put, List.setIfInBounds_toArray, List.set_cons_zero, List.set_cons_succ]))
     refine Hv.noise (m := _) (by rfl) (by rfl) (by rfl) (Hv.con_ex _) (fun wx hS hf => ?_) (fun v hv => ?_)
     ·unfold Hv.Gives
      go_simp
      refine (Calls.mono (K.out _) (fun _ _ h => h)).mono ?_
      rintro e w' ⟨rfl, hb⟩
      exact ⟨_, rfl, hb, rfl, trivial⟩
     obtain rfl := hv
     (try simp only [Act.put, List.setIfInBounds_toArray, List.set_cons_zero, List.set_cons_succ])
     iterate 1 (refine Hv.pure (v := ?_) (by rfl) (by rfl) (by rfl) (fun wx hS => ?_) ?_; rotate_left; (focus (have hc := hS.cells.1; have hz := hS.cells.2; go_simp; (first | done | with_reducible rfl))); (try simp only [Act.put, List.setIfInBounds_toArray, List.set_cons_zero, List.set_cons_succ]))
     refine Hv.done (fun wx hS _ => ?_)
     simp only [List.drop_succ_cons, List.drop_nil]
     have hB1 := hB.grow hS
     have hb1 := Hv.Ext.below hb hS (by omega)
     clear hB hb c0 c1 c2
     go_wp2_with fail
     go_roundg k
     case measure => omega
     case rel => exact ⟨k, x ||| b, rfl, by omega, rfl, by rw [SH.out], Lib.hid (by rw [← hR2.out.symm.trans hR.out]; rfl), hB1, hb1⟩

end Sha
end Go.Proofs.YtakdoijemopejaaGreat


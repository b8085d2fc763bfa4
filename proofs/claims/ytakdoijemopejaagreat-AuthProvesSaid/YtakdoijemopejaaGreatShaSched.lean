/- The walk of sha.schedule. -/
import Derived.Test.YtakdoijemopejaaGreatShaRot
import Derived.Test.YtakdoijemopejaaGreatBaseA
import Derived.Outline
import Derived.StillTailTactics
import Derived.BigRegion
import Derived.Deep.RegionHeld3
import Derived.Deep.DeepCutAuto
import Derived.Deep.LoopGhost
import Derived.Deep.Light
import Derived.Deep.CutBlock
set_option maxRecDepth 100000
set_option linter.unusedSimpArgs false
set_option linter.unusedVariables false
namespace Go.Proofs.YtakdoijemopejaaGreat
open Go.RowKit
namespace Sha
open Bv (n8 n16 n32 n64)
attribute [local go_sem ↓] Bv.xor_n32 Bv.and_n32 Bv.or_n32 Bv.add_n32 Bv.shl_n32 Bv.shr_n32
attribute [local go_sem] Bv.of_n32 Bv.of_n64 Bv.wrap_n32_of Bv.of32_n8
def v8 (x : BitVec 8) : Value := .int .u8 (n8 x)
def v32 (x : BitVec 32) : Value := .int .u32 (n32 x)
def word (bs : List (BitVec 8)) (i : Nat) : BitVec 32 :=
 (bs.getD (4 * i) 0).setWidth 32 <<< 24 ||| (bs.getD (4 * i + 1) 0).setWidth 32 <<< 16 ||| (bs.getD (4 * i + 2) 0).setWidth 32 <<< 8 ||| (bs.getD (4 * i + 3) 0).setWidth 32
def nextW (l : List (BitVec 32)) (i : Nat) : BitVec 32 :=
 (rotx (l.getD (i - 2) 0) [17, 19] ^^^ l.getD (i - 2) 0 >>> 10) + l.getD (i - 7) 0 + (rotx (l.getD (i - 15) 0) [7, 18] ^^^ l.getD (i - 15) 0 >>> 3) + l.getD (i - 16) 0
def sched (bs : List (BitVec 8)) : Nat → List (BitVec 32)
 | 0 => []
 | i + 1 => sched bs i ++ [if i < 16 then word bs i else nextW (sched bs i) i]
theorem sched_length (bs : List (BitVec 8)) (k : Nat) : (sched bs k).length = k := by
 induction k with
 | zero => rfl
 | succ k ih => simp [sched, ih]
/-- The cells of an array of 64 words of which the first are set. -/
def row64 (l : List (BitVec 32)) : List Value := l.map v32 ++ List.replicate (64 - l.length) (v32 0#32)
theorem row64_length (l : List (BitVec 32)) (h : l.length ≤ 64) : (row64 l).length = 64 := by simp [row64]; omega
theorem row64_get (l : List (BitVec 32)) (i : Nat) (h : i < 64) : (row64 l)[i]? = some (.int .u32 (n32 (l.getD i 0))) := by
 unfold row64
 by_cases hi : i < l.length
 ·rw [List.getElem?_append_left (by simpa using hi)]; simp [v32, hi]
 ·rw [List.getElem?_append_right (by simp; omega)]
  simp [v32, List.getElem?_replicate, List.getElem?_eq_none (show l.length ≤ i by omega)]; omega
theorem row64_set (l : List (BitVec 32)) (h : l.length < 64) (x : BitVec 32) : (row64 l).set l.length (.int .u32 (n32 x)) = row64 (l ++ [x]) := by
 unfold row64
 have e : 64 - l.length = (64 - (l ++ [x]).length) + 1 := by simp; omega
 rw [e, List.replicate_succ, List.set_append_right _ _ (by simp)]
 simp [v32]
def SInv (bs : List (BitVec 8)) (w : World) (k : Nat) (wr : World) : Prop :=
 Li.Blk wr w.heap.size (bs.map v8) 120 ∧ Li.Blk wr (w.heap.size + 1) (row64 (sched bs k)) 125 ∧ Below w.heap.size w wr
theorem SInv.step {bs : List (BitVec 8)} {w wr : World} {k : Nat} {x : BitVec 32} (h : SInv bs w k wr) (hk : k < 64) (hx : x = if k < 16 then word bs k else nextW (sched bs k) k) (v : Value) (hv : v = .int .u32 (n32 x)) :
  SInv bs w (k + 1) (wr.setCell ⟨w.heap.size + 1, k, none⟩ v) := by
 obtain ⟨h1, h2, h3⟩ := h
 subst hv
 refine ⟨h1.setOther (by simp) _, ?_, h3.setCell (by simp) _⟩
 have := h2.set k (.int .u32 (n32 x))
 rw [show (row64 (sched bs k)).set k (.int .u32 (n32 x)) = row64 (sched bs (k + 1)) by
  have e := row64_set (sched bs k) (by rw [sched_length]; exact hk) x
  rw [sched_length] at e
  rw [e, sched, ← hx]] at this
 exact this
theorem SInv.drew {bs : List (BitVec 8)} {w wr : World} {k : Nat} (h : SInv bs w k wr) : SInv bs w k wr.drew := ⟨h.1, h.2.1, h.2.2.drew⟩
theorem SInv.ext {bs : List (BitVec 8)} {w wr wx : World} {k : Nat} (h : SInv bs w k wr) (e : Hv.Ext wr wx) : SInv bs w k wx := ⟨h.1.grow e, h.2.1.grow e, h.2.2.trans (e.mono h.2.2.size)⟩
theorem bcell (bs : List (BitVec 8)) (hbs : bs.length = 64) (i : Nat) (h : i < 64) : (bs.map v8)[i]? = some (.int .u8 (n8 (bs.getD i 0))) := by
 simp [v8, hbs, h]
set_option maxHeartbeats 1000000 in
theorem sched_any (bs : List (BitVec 8)) (hbs : bs.length = 64) (w : World) :
  Calls Tryz.prog 100 #[.agg (bs.map v8).toArray] w fun e w' => e = .returned (.agg ((sched bs 64).map v32).toArray) ∧ Below w.heap.size w w' := by
 go_enter Tryz.func100, Tryz.ntmps100
 go_wp2
 go_loopg [7] 64 (fun g s7 wr => ∃ k : Nat, g = 64 - k ∧ k ≤ 64 ∧ s7 = .int .i64 k ∧ SInv bs w k wr)
 case atStart =>
  refine ⟨0, rfl, by omega, rfl, ?_, ?_, ?_⟩
  ·exact heap_alloc2_old _ _ _
  ·exact heap_alloc2_new _ _ _
  ·exact ((Below.refl _ _).alloc (Nat.le_refl _) _).alloc (by simp) _
 case round =>
  obtain ⟨k, rfl, hk, rfl, hI⟩ := hrel
  by_cases hlt : k < 64
  ·have cK := (hI.2.1.cell k).trans (row64_get (sched bs k) k hlt)
   have fK := hI.2.1.frozen k
   go_upto_block 1 with fail
   go_cut [] (fun wx => SInv bs w (k + 1) wx)
   case first =>
    by_cases h16 : k < 16
    ·have hsl := fun wx => Li.run_part (P := Tryz.prog) (t := 120) (n := 64) (e := 5) Tryz.underlying120 (by kernel_rfl) w.heap.size 0 (l := 4 * (k : Int)) (h := 4 * (k : Int) + 4) (4 * k) (4 * k + 4) (by omega) (by omega) (by omega) (by omega) (by omega) wx
     simp only [Nat.zero_add, Nat.add_sub_cancel_left] at hsl
     have c0 := (hI.1.cell (4 * k)).trans (bcell bs hbs (4 * k) (by omega))
     have c1 := (hI.1.cell (4 * k + 1)).trans (bcell bs hbs (4 * k + 1) (by omega))
     have c2 := (hI.1.cell (4 * k + 2)).trans (bcell bs hbs (4 * k + 2) (by omega))
     have c3 := (hI.1.cell (4 * k + 3)).trans (bcell bs hbs (4 * k + 3) (by omega))
     go_wp2_with fail
     go_still_tail 24, (by kernel_rfl)
     go_wp2_with fail
     go_meet
     exact SInv.drew (SInv.step hI hlt (by rw [if_pos h16]; simp [word]) _ rfl)
    ·have d15 := (hI.2.1.cell (k - 15)).trans (row64_get (sched bs k) (k - 15) (by omega))
     have d2 := (hI.2.1.cell (k - 2)).trans (row64_get (sched bs k) (k - 2) (by omega))
     have d7 := (hI.2.1.cell (k - 7)).trans (row64_get (sched bs k) (k - 7) (by omega))
     have d16 := (hI.2.1.cell (k - 16)).trans (row64_get (sched bs k) (k - 16) (by omega))
     have e15 : (15 : Int) ≤ k := by omega
     have i15 : (k : Int) < 79 := by omega
     have e2 : (2 : Int) ≤ k := by omega
     have i2 : (k : Int) < 66 := by omega
     go_wp2_with fail
     go_quiet (fail)
     go_wp2_with fail
     have nk : w.heap.size + 1 < wr.heap.size := hI.2.1.lt
     have e7 : (7 : Int) ≤ k := by omega
     have e16 : (16 : Int) ≤ k := by omega
     generalize hx2 : (sched bs k)[k - 2]?.getD 0#32 = x2
     generalize hx15 : (sched bs k)[k - 15]?.getD 0#32 = x15
     have w7 : IntKind.i64.wrap ((k : Int) - 7) = (k : Int) - 7 := IntWalk.i64_in _ (by omega)
     have w16 : IntKind.i64.wrap ((k : Int) - 16) = (k : Int) - 16 := IntWalk.i64_in _ (by omega)
     have j7 : (k : Int) - 7 < 64 := by omega
     have j16 : (k : Int) - 16 < 64 := by omega
     have t7 : ((k : Int) - 7).toNat = k - 7 := by omega
     have t16 : ((k : Int) - 16).toNat = k - 16 := by omega
     have HX2 := Lib.hid hx2
     have HX15 := Lib.hid hx15
     clear d15 d2 hx2 hx15
     generalize hx7 : (sched bs k).getD (k - 7) 0 = x7 at d7
     generalize hx16 : (sched bs k).getD (k - 16) 0 = x16 at d16
     have HX7 := Lib.hid hx7
     have HX16 := Lib.hid hx16
     clear hx7 hx16
     refine Hv.grow 25 (fun | 2 => some (Hv.row [.int .i64 17, .int .i64 19] 3) | 3 => some (Hv.con (.int .u32 (n32 (rotx x2 [17, 19])))) | 13 => some (Hv.row [.int .i64 7, .int .i64 18] 3) | 14 => some (Hv.con (.int .u32 (n32 (rotx x15 [7, 18])))) | _ => none)
      (fun | 3 => [[2, 3]] | 14 => [[13, 14]] | _ => []) (by kernel_rfl) (by kernel_rfl) ?_ ?_
     ·intro i m hm v wa wb hR hv
      split at hm <;> first | cases hm | skip
      all_goals first | exact Hv.row_st hR hv | exact Hv.con_st hR hv
     ·change Hv.HW _ _ _ _ _ _ _ [0, 1, 2, 3, 4, 5, 6, 7, 8, 9, 10, 11, 12, 13, 14, 15, 16, 17, 18, 19, 20, 21, 22, 23, 24] _ _
      iterate 2 (refine Hv.pure (v := ?_) (by rfl) (by rfl) (by rfl) (fun wx hS => ?_) ?_; rotate_left; (focus (have hc := hS.undrewN.cells.1; have hz := hS.undrewN.cells.2; go_simp; (first | done | with_reducible rfl))); (try simp only [Act.put, List.setIfInBounds_toArray, List.set_cons_zero, List.set_cons_succ]))
      refine Hv.noise (m := _) (by rfl) (by rfl) (by rfl) (Hv.row_ex _ _) (fun wx hS hf => ?_) (fun v hv => ?_)
      ·unfold Hv.Gives
       go_simp
       exact Hv.row_new wx [.int .i64 17, .int .i64 19] 3
      obtain ⟨_, rfl⟩ := hv
      (try simp only [Act.put, List.setIfInBounds_toArray, List.set_cons_zero, List.set_cons_succ])
      refine Hv.noise (m := _) (by rfl) (by rfl) (by rfl) (Hv.con_ex _) (fun wx hS hf => ?_) (fun v hv => ?_)
      ·have h1 := hf _ List.mem_cons_self ⟨[2, 3], List.mem_cons_self, rfl⟩ _ _ _ rfl
       unfold Hv.Gives
       go_simp
       refine (rotr2 x2 17 19 _ _ _ ((cell_of_row _ _ 0 _ _ _ h1).trans rfl) ((cell_of_row _ _ 1 _ _ _ h1).trans rfl) (by omega) (by omega)).mono ?_
       rintro e w' ⟨rfl, rfl⟩
       exact ⟨_, rfl, Hv.Ext.refl _, rfl, trivial⟩
      obtain rfl := hv
      (try simp only [Act.put, List.setIfInBounds_toArray, List.set_cons_zero, List.set_cons_succ])
      iterate 9 (refine Hv.pure (v := ?_) (by rfl) (by rfl) (by rfl) (fun wx hS => ?_) ?_; rotate_left; (focus (have hc := hS.undrewN.cells.1; have hz := hS.undrewN.cells.2; go_simp; (first | done | with_reducible rfl))); (try simp only [Act.put, List.setIfInBounds_toArray, List.set_cons_zero, List.set_cons_succ]))
      refine Hv.noise (m := _) (by rfl) (by rfl) (by rfl) (Hv.row_ex _ _) (fun wx hS hf => ?_) (fun v hv => ?_)
      ·unfold Hv.Gives
       go_simp
       exact Hv.row_new wx [.int .i64 7, .int .i64 18] 3
      obtain ⟨_, rfl⟩ := hv
      (try simp only [Act.put, List.setIfInBounds_toArray, List.set_cons_zero, List.set_cons_succ])
      refine Hv.noise (m := _) (by rfl) (by rfl) (by rfl) (Hv.con_ex _) (fun wx hS hf => ?_) (fun v hv => ?_)
      ·have h1 := hf _ List.mem_cons_self ⟨[13, 14], List.mem_cons_self, rfl⟩ _ _ _ rfl
       unfold Hv.Gives
       go_simp
       refine (rotr2 x15 7 18 _ _ _ ((cell_of_row _ _ 0 _ _ _ h1).trans rfl) ((cell_of_row _ _ 1 _ _ _ h1).trans rfl) (by omega) (by omega)).mono ?_
       rintro e w' ⟨rfl, rfl⟩
       exact ⟨_, rfl, Hv.Ext.refl _, rfl, trivial⟩
      obtain rfl := hv
      (try simp only [Act.put, List.setIfInBounds_toArray, List.set_cons_zero, List.set_cons_succ])
      iterate 10 (refine Hv.pure (v := ?_) (by rfl) (by rfl) (by rfl) (fun wx hS => ?_) ?_; rotate_left; (focus (have hc := hS.undrewN.cells.1; have hz := hS.undrewN.cells.2; go_simp; (first | done | with_reducible rfl))); (try simp only [Act.put, List.setIfInBounds_toArray, List.set_cons_zero, List.set_cons_succ]))
      refine Hv.done (fun wx hS _ => ?_)
      have hc := hS.undrewN.cells.1
      have hz := hS.undrewN.cells.2
      simp only [List.drop_succ_cons, List.drop_zero]
      go_wp2_with fail
      go_meet
      have e : SInv bs w k wx := hI.ext hS.undrewN
      exact SInv.step e hlt (by rw [if_neg h16, nextW, HX7.out, HX16.out]; simp only [List.getD_eq_getElem?_getD]; rw [show (0 : BitVec 32) = 0#32 from rfl, HX2.out, HX15.out]) _ rfl
   case rest =>
    go_wp2_with fail
    go_roundg (64 - (k + 1))
    case measure => omega
    case rel => exact ⟨k + 1, rfl, by omega, by go_num, hcut⟩
  ·have ek : k = 64 := by omega
   subst ek
   have hB := hI.2.1
   have hf : row64 (sched bs 64) = (sched bs 64).map v32 := by
    unfold row64; rw [sched_length]; simp
   rw [hf] at hB
   have hlen : ((sched bs 64).map v32).length = 64 := by simp [sched_length]
   go_wp2_with (first
    | (refine Li.wpList_load_blk rfl 125 _ rfl (w.heap.size + 1) rfl hB Tryz.underlying125 rfl ?_ ?_; (rw [hlen]; kernel_rfl))
    | (refine Li.wpList_store_blk rfl 125 _ _ rfl (w.heap.size + 1) rfl rfl hB rfl ?_ ?_ ?_; (rw [hlen]; kernel_rfl); (intro v hv; obtain ⟨x, _, rfl⟩ := List.mem_map.1 hv; rfl)))
   have hB' := hB.setAll (vs := (sched bs 64).map v32) rfl
   refine Li.bodyPost_blk rfl rfl hB' Tryz.underlying125 rfl (by rw [hlen]; kernel_rfl) rfl ⟨rfl, Li.below_setCells _ _ _ _ hI.2.2 (by omega)⟩
end Sha
end Go.Proofs.YtakdoijemopejaaGreat


/- The walk of the reference's constants. -/
import Derived.Test.YtakdoijemopejaaShaDig
set_option maxRecDepth 100000
set_option linter.unusedSimpArgs false
set_option linter.unusedVariables false
namespace Go.Proofs.Ytakdoijemopejaa
open Go.RowKit
namespace Sha
open Bv (n8 n16 n32 n64)
def fnd : Nat → List Nat
 | 0 => []
 | p + 1 => if 2 ≤ p ∧ isP p = true then fnd p ++ [p] else fnd p
def RKr (l : List Nat) : List Value := Li.rowOf (v32 0#32) 64 (l.map fun p => v32 (digN p 3))
def RHr (l : List Nat) : List Value := Li.rowOf (v32 0#32) 8 ((l.take 8).map fun p => v32 (digN p 2))
theorem RKr_set (l : List Nat) (h : l.length < 64) (p : Nat) : (RKr l).set l.length (v32 (digN p 3)) = RKr (l ++ [p]) := by
 have e := Li.rowOf_set (v32 0#32) 64 (l.map fun p => v32 (digN p 3)) (by simpa using h) (v32 (digN p 3))
 unfold RKr
 rw [List.length_map] at e
 rw [e, List.map_append]; rfl
theorem RHr_set (l : List Nat) (h : l.length < 8) (p : Nat) : (RHr l).set l.length (v32 (digN p 2)) = RHr (l ++ [p]) := by
 have e := Li.rowOf_set (v32 0#32) 8 (l.map fun p => v32 (digN p 2)) (by simpa using h) (v32 (digN p 2))
 unfold RHr
 rw [List.length_map] at e
 rw [List.take_of_length_le (by omega), e, List.take_of_length_le (by simp; omega), List.map_append]; rfl
theorem RHr_stay (l : List Nat) (h : 8 ≤ l.length) (p : Nat) : RHr (l ++ [p]) = RHr l := by
 unfold RHr; rw [List.take_append_of_le_length h]
structure RkInv (n : Nat) (w : World) (l m : List Nat) (wr : World) : Prop where
 z1 : Li.Blk wr n (Li.rowOf (v32 0#32) 64 []) 113
 z2 : Li.Blk wr (n + 1) (Li.rowOf (v32 0#32) 8 []) 112
 kb : Li.Blk wr (n + 2) (RKr l) 113
 hb : Li.Blk wr (n + 3) (RHr m) 112
 b : Below n w wr
theorem RkInv.ext {n : Nat} {w : World} {l m : List Nat} {wr wx : World} (h : RkInv n w l m wr) (e : Below wr.heap.size wr wx) : RkInv n w l m wx :=
 ⟨h.z1.grow e, h.z2.grow e, h.kb.grow e, h.hb.grow e, h.b.trans (e.mono (by have := h.hb.lt; omega))⟩
theorem RkInv.setK {n : Nat} {w : World} {l m : List Nat} {p : Nat} {wr : World} (h : RkInv n w l m wr) (hl : l.length < 64) : RkInv n w (l ++ [p]) m (wr.setCell ⟨n + 2, l.length, none⟩ (v32 (digN p 3))) :=
 ⟨h.z1.setOther (by simp) _, h.z2.setOther (by simp) _, by rw [← RKr_set l hl p]; exact h.kb.set _ _, h.hb.setOther (by simp) _, h.b.setCell (by simp) _⟩
theorem RkInv.setH {n : Nat} {w : World} {l m : List Nat} {p : Nat} {wr : World} (h : RkInv n w l m wr) (hl : m.length < 8) : RkInv n w l (m ++ [p]) (wr.setCell ⟨n + 3, m.length, none⟩ (v32 (digN p 2))) :=
 ⟨h.z1.setOther (by simp) _, h.z2.setOther (by simp) _, h.kb.setOther (by simp) _, by rw [← RHr_set m hl p]; exact h.hb.set _ _, h.b.setCell (by simp) _⟩
theorem RkInv.stay {n : Nat} {w : World} {l m : List Nat} {p : Nat} {wr : World} (h : RkInv n w l m wr) (hl : 8 ≤ m.length) : RkInv n w l (m ++ [p]) wr :=
 ⟨h.z1, h.z2, h.kb, by rw [RHr_stay m hl p]; exact h.hb, h.b⟩
attribute [local irreducible] digN pr64 fnd isP
end Sha
end Go.Proofs.Ytakdoijemopejaa


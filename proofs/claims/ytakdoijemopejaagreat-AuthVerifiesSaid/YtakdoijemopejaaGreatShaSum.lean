/- The walk of Digest.Sum. -/
import Derived.Test.YtakdoijemopejaaGreatShaCopy
set_option maxRecDepth 100000
set_option linter.unusedSimpArgs false
set_option linter.unusedVariables false
namespace Go.Proofs.YtakdoijemopejaaGreat
open Go.RowKit
namespace Sha
open Bv (n8 n16 n32 n64)
attribute [local irreducible] K64 H8 stepL chN
structure SI (n : Nat) (w : World) (Z : List Value) (wr : World) (M : List (BitVec 8)) : Prop where
 ex : ∃ r, Dg wr (n + 1) r M ∧ (∀ g, r = some g → n + 1 < g)
 z : Li.Blk wr n Z 34
 b : Below n w wr
theorem Dg.lt {w : World} {D : Nat} {r : Option Nat} {M : List (BitVec 8)} (h : Dg w D r M) : D < w.heap.size := by
 obtain ⟨s, k, A, c, h⟩ := h
 exact h.d.lt
theorem SI.lt {n : Nat} {w : World} {Z : List Value} {wr : World} {M : List (BitVec 8)} (h : SI n w Z wr M) : n + 1 < wr.heap.size := by
 obtain ⟨r, h1, _⟩ := h.ex
 exact h1.lt
theorem Dg.ext {w w' : World} {D : Nat} {r : Option Nat} {M : List (BitVec 8)} (h : Dg w D r M) (e : Below w.heap.size w w') : Dg w' D r M := by
 obtain ⟨s, k, A, c, h⟩ := h
 exact ⟨s, k, A, c, h.d.grow e, h.o.grow e, h.hs, h.hk, h.hrd, h.le⟩
theorem SI.ext {n : Nat} {w : World} {Z : List Value} {wr wx : World} {M : List (BitVec 8)} (h : SI n w Z wr M) (e : Below wr.heap.size wr wx) : SI n w Z wx M := by
 obtain ⟨r, h1, h2⟩ := h.ex
 exact ⟨⟨r, h1.ext e, h2⟩, h.z.grow e, h.b.trans (e.mono (by have := h1.lt; omega))⟩
theorem write_si {n : Nat} {w : World} {Z : List Value} {wr : World} {M : List (BitVec 8)} (h : SI n w Z wr M) (p : List (BitVec 8)) (B : Option Addr) (m cap : Nat) (hm : m = p.length) (hlen : M.length + p.length ≤ 1099511627776) (hB : Li.Rd wr B (p.map v8)) (hBD : ∀ a, B = some a → p ≠ [] → a.block ≠ n + 1) :
  Calls Tryz.prog 70 #[.pointer (some ⟨n + 1, 0, none⟩), .slice B m cap] wr fun e w' => e = .returned (.int .i64 0) ∧ SI n w Z w' (M ++ p) ∧ wr.heap.size ≤ w'.heap.size := by
 obtain ⟨r, h1, h2⟩ := h.ex
 refine (write_any (n + 1) r M p B m cap hm hlen wr h1 hB hBD).mono ?_
 rintro e w' ⟨rfl, r', hD, hF, hr⟩
 refine ⟨rfl, ⟨⟨r', hD, ?_⟩, h.z.fr hF ?_, h.b.trans (hF.below (by have := h1.lt; omega) ?_)⟩, hF.size⟩
 ·rintro g rfl
  rcases hr with hr | hr | hr
  ·exact h2 g hr.symm
  ·cases hr
  ·injection hr with hr; have := h1.lt; omega
 ·rintro (h | h)
  ·omega
  ·have := h2 n h; omega
 ·rintro b (h | h)
  ·omega
  ·have := h2 b h; omega
/-- The bytes of the padding. -/
def be64 (x : BitVec 64) : List (BitVec 8) := (List.range 8).map fun i => (x >>> (56 - 8 * i)).setWidth 8
def padL (M : List (BitVec 8)) : List (BitVec 8) := M ++ [128#8] ++ List.replicate ((120 - (M.length + 1) % 64) % 64) 0#8 ++ be64 (BitVec.ofNat 64 (M.length * 8))
def dig (s : List (BitVec 32)) : List (BitVec 8) := (List.range 32).map fun i => ((s.getD (i / 4) 0) >>> (24 - 8 * (i % 4))).setWidth 8
def shaL (M : List (BitVec 8)) : List (BitVec 8) := dig (chN (padL M) ((padL M).length / 64))
theorem padL_length (M : List (BitVec 8)) : (padL M).length % 64 = 0 := by
 unfold padL be64
 simp only [List.length_append, List.length_replicate, List.length_map, List.length_range, List.length_cons, List.length_nil]
 omega
theorem padL_pos (M : List (BitVec 8)) : 0 < (padL M).length / 64 := by
 have := padL_length M
 have h : 1 ≤ (padL M).length := by unfold padL; simp; omega
 omega
theorem write_byte {n : Nat} {w : World} {Z : List Value} {wr : World} {M : List (BitVec 8)} (h : SI n w Z wr M) (b : BitVec 8) (hlen : M.length + 1 ≤ 1099511627776) :
  Calls Tryz.prog 70 #[.pointer (some ⟨n + 1, 0, none⟩), .slice (some ⟨wr.heap.size, 0, none⟩) 1 1] (wr.alloc (.cells #[v8 b] 5)) fun e w' => e = .returned (.int .i64 0) ∧ SI n w Z w' (M ++ [b]) ∧ wr.heap.size ≤ w'.heap.size := by
 have h1 : SI n w Z (wr.alloc (.cells #[v8 b] 5)) M := h.ext ((Below.refl _ _).alloc (Nat.le_refl _) _)
 refine (write_si h1 [b] _ 1 1 rfl hlen (Li.Rd.of_blk (Li.Blk.new wr [v8 b] 5)) ?_).mono ?_
 ·intro a ha _; cases ha
  have := h.lt
  show wr.heap.size ≠ n + 1
  omega
 ·rintro e w' ⟨rfl, h2, h3⟩
  exact ⟨rfl, h2, by simp only [World.size_alloc] at h3; omega⟩
theorem write_zeros {n : Nat} {w : World} {Z : List Value} {wr : World} {M : List (BitVec 8)} (h : SI n w Z wr M) (z : Nat) (hlen : M.length + z ≤ 1099511627776) :
  Calls Tryz.prog 70 #[.pointer (some ⟨n + 1, 0, none⟩), .slice (some ⟨wr.heap.size, 0, none⟩) z z] (wr.alloc (.cells (List.replicate z (v8 0#8)).toArray 5)) fun e w' => e = .returned (.int .i64 0) ∧ SI n w Z w' (M ++ List.replicate z 0#8) ∧ wr.heap.size ≤ w'.heap.size := by
 have h1 : SI n w Z (wr.alloc (.cells (List.replicate z (v8 0#8)).toArray 5)) M := h.ext ((Below.refl _ _).alloc (Nat.le_refl _) _)
 refine (write_si h1 (List.replicate z 0#8) _ z z (by simp) (by simpa using hlen) (by rw [List.map_replicate]; exact Li.Rd.of_blk (Li.Blk.new wr (List.replicate z (v8 0#8)) 5)) ?_).mono ?_
 ·intro a ha _; cases ha
  have := h.lt
  show wr.heap.size ≠ n + 1
  omega
 ·rintro e w' ⟨rfl, h2, h3⟩
  exact ⟨rfl, h2, by simp only [World.size_alloc] at h3; omega⟩
theorem chW_get {s k : List (BitVec 32)} (hs : s.length = 8) (rd : Bool) (v n : Value) (i : Nat) (hi : i < 8) : (chW s k rd v n)[i]? = some (.int .u32 (n32 (s.getD i 0))) := by
 unfold chW
 rw [List.getElem?_append_left (by simp; omega)]
 simp [v32, hs, hi]
theorem dig_take (s : List (BitVec 32)) (k : Nat) (h : k < 32) : (dig s).take (k + 1) = (dig s).take k ++ [((s.getD (k / 4) 0) >>> (24 - 8 * (k % 4))).setWidth 8] := by
 unfold dig
 rw [List.take_succ_eq_append_getElem (by simpa using h)]
 simp
theorem dig_length (s : List (BitVec 32)) : (dig s).length = 32 := by simp [dig]
def DR (d : List (BitVec 8)) (k : Nat) : List Value := Li.rowOf (v8 0#8) 32 ((d.take k).map v8)
theorem DR_set (s : List (BitVec 32)) (k : Nat) (h : k < 32) : (DR (dig s) k).set k (v8 (((s.getD (k / 4) 0) >>> (24 - 8 * (k % 4))).setWidth 8)) = DR (dig s) (k + 1) := by
 have el : (((dig s).take k).map v8).length = k := by simp [dig_length]; omega
 have e := Li.rowOf_set (v8 0#8) 32 (((dig s).take k).map v8) (by omega) (v8 (((s.getD (k / 4) 0) >>> (24 - 8 * (k % 4))).setWidth 8))
 rw [el] at e
 unfold DR
 rw [e, dig_take s k h, List.map_append]; rfl
theorem DR_all (s : List (BitVec 32)) : DR (dig s) 32 = (dig s).map v8 := by
 unfold DR
 rw [List.take_of_length_le (by rw [dig_length]; exact Nat.le_refl _), Li.rowOf_full _ _ _ (by rw [List.length_map, dig_length])]
end Sha
end Go.Proofs.YtakdoijemopejaaGreat


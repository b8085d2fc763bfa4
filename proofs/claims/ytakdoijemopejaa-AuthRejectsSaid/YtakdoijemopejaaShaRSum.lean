/- The walk of the reference's Sum. -/
import Derived.Test.YtakdoijemopejaaShaSha
set_option maxRecDepth 100000
set_option linter.unusedSimpArgs false
set_option linter.unusedVariables false
namespace Go.Proofs.Ytakdoijemopejaa
open Go.RowKit
namespace Sha
open Bv (n8 n16 n32 n64)
attribute [local irreducible] K64 H8 stepL chN shaL
structure RS (n k : Nat) (w : World) (S : List Value) (M : List (BitVec 8)) (r : Option Nat) (A : Option Addr) (c : Nat) (wr : World) : Prop where
 z : Li.Blk wr n (List.replicate 32 (v8 0#8)) 25
 K : Li.Blk wr k (K64.map v32) 113
 s : Li.Blk wr (k + 1) S 112
 o : Li.Os wr 5 r A c (M.map v8)
 b : Below n w wr
 nk : n < k
 r0 : ∀ g, r = some g → n ≤ g
theorem RS.ne {n k : Nat} {w : World} {S : List Value} {M : List (BitVec 8)} {r : Option Nat} {A : Option Addr} {c : Nat} {wr : World} (h : RS n k w S M r A c wr) : r ≠ some n ∧ r ≠ some k ∧ r ≠ some (k + 1) :=
 ⟨h.o.ne h.z (by decide), h.o.ne h.K (by decide), h.o.ne h.s (by decide)⟩
theorem RS.app {n k : Nat} {w : World} {S : List Value} {M p : List (BitVec 8)} {r r' : Option Nat} {A A' : Option Addr} {c c' : Nat} {wr wx : World} (h : RS n k w S M r A c wr) (ho : Li.Os wx 5 r' A' c' (M.map v8 ++ p.map v8)) (hg : wr.grownBy wx r) (hr : r' = r ∨ r' = some wr.heap.size) : RS n k w S (M ++ p) r' A' c' wx := by
 obtain ⟨h1, h2, h3⟩ := h.ne
 have hz := h.z.lt
 refine ⟨h.z.of_block (hg.block n h.z.lt h1.symm), h.K.of_block (hg.block k h.K.lt h2.symm), h.s.of_block (hg.block (k + 1) h.s.lt h3.symm), by rw [List.map_append]; exact ho, h.b.trans (Li.grown_below hg (by omega) h.r0), h.nk, ?_⟩
 intro g hgr
 rcases hr with rfl | rfl
 ·exact h.r0 g hgr
 ·injection hgr with e; omega
theorem RS.ext {n k : Nat} {w : World} {S : List Value} {M : List (BitVec 8)} {r : Option Nat} {A : Option Addr} {c : Nat} {wr wx : World} (h : RS n k w S M r A c wr) (e : Below wr.heap.size wr wx) : RS n k w S M r A c wx :=
 ⟨h.z.grow e, h.K.grow e, h.s.grow e, h.o.grow e, h.b.trans (e.mono (by have := h.z.lt; omega)), h.nk, h.r0⟩
end Sha
end Go.Proofs.Ytakdoijemopejaa


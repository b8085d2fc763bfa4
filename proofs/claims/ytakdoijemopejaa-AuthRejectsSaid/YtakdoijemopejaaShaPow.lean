/- The walk of the reference's power. -/
import Derived.Test.YtakdoijemopejaaShaRefC
import Derived.Test.YtakdoijemopejaaBaseA
set_option maxRecDepth 100000
set_option linter.unusedSimpArgs false
set_option linter.unusedVariables false
namespace Go.Proofs.Ytakdoijemopejaa
open Go.RowKit
namespace Sha
open Bv (n8 n16 n32 n64)
def vi (n : Int) : Value := .int .i64 n
/-- One digit multiplied. -/
def mul1 (x : Int) (out : List Int) (nx : List Int) (i : Nat) : List Int := nx.set i (wrap64 (nx.getD i 0 + wrap64 (out.getD i 0 * (x % 65536))))
def mul2 (x : Int) (out : List Int) (nx : List Int) (i : Nat) : List Int := nx.set (i + 1) (wrap64 (nx.getD (i + 1) 0 + wrap64 (out.getD i 0 * (x / 65536 % 65536))))
def mul3 (x : Int) (out : List Int) (nx : List Int) (i : Nat) : List Int := nx.set (i + 2) (wrap64 (nx.getD (i + 2) 0 + wrap64 (out.getD i 0 * (x / 4294967296))))
def mulTo (x : Int) (out : List Int) : Nat → List Int
 | 0 => List.replicate (out.length + 3) 0
 | i + 1 => mul3 x out (mul2 x out (mul1 x out (mulTo x out i) i) i) i
def carTo (nx : List Int) : Nat → List Int
 | 0 => nx
 | i + 1 =>
  let a := (carTo nx i).set (i + 1) (wrap64 ((carTo nx i).getD (i + 1) 0 + wrap64 (((carTo nx i).getD i 0).tdiv 65536)))
  a.set i ((a.getD i 0).tmod 65536)
def pstep (x : Int) (out : List Int) : List Int := carTo (mulTo x out out.length) (out.length + 2)
def powL (x : Int) : Nat → List Int
 | 0 => [1]
 | k + 1 => pstep x (powL x k)
attribute [local irreducible] mulTo carTo powL
structure MI (n : Nat) (w : World) (m b : Nat) (L out : List Int) (wr : World) : Prop where
 nx : Li.Blk wr m (L.map vi) 3
 ou : Li.Blk wr b (out.map vi) 3
 bl : Below n w wr
 ne : b < m
 nm : n ≤ m
theorem MI.set {n : Nat} {w : World} {m b : Nat} {L out : List Int} {wr : World} (h : MI n w m b L out wr) (i : Nat) (v : Int) : MI n w m b (L.set i v) out (wr.setCell ⟨m, i, none⟩ (.int .i64 v)) :=
 ⟨by rw [List.map_set]; exact h.nx.set i _, h.ou.setOther (by have := h.ne; simp; omega) _, h.bl.setCell h.nm _, h.ne, h.nm⟩
theorem MI.drew {n : Nat} {w : World} {m b : Nat} {L out : List Int} {wr : World} (h : MI n w m b L out wr) : MI n w m b L out wr.drew := ⟨h.nx, h.ou, h.bl.drew, h.ne, h.nm⟩
end Sha
end Go.Proofs.Ytakdoijemopejaa


/- The walk of the reference's step. -/
import Derived.Test.YtakdoijemopejaaShaStep
import Derived.Test.YtakdoijemopejaaQuiet
set_option maxRecDepth 100000
set_option linter.unusedSimpArgs false
set_option linter.unusedVariables false
namespace Go.Proofs.Ytakdoijemopejaa
open Go.RowKit
namespace Sha
open Bv (n8 n16 n32 n64)
attribute [local go_sem ↓] Bv.xor_n32 Bv.and_n32 Bv.or_n32 Bv.add_n32 Bv.sub_n32 Bv.mul_n32 Bv.shl_n32 Bv.shr_n32
attribute [local go_sem] Bv.of_n32 Bv.of_n64 Bv.wrap_n32_of Bv.of32_n8
/-- The first j bytes of word i. -/
def part (bs : List (BitVec 8)) (i : Nat) : Nat → BitVec 32
 | 0 => 0#32
 | j + 1 => part bs i j * 256#32 + (bs.getD (4 * i + j) 0).setWidth 32
attribute [local irreducible] sched rnds stepL rotx ror part word nextW
structure RInv (n : Nat) (ks s : List (BitVec 32)) (w : World) (L : List Value) (wr : World) : Prop where
 s0 : Li.Blk wr n (s.map v32) 112
 k : Li.Blk wr (n + 1) (ks.map v32) 113
 r : Li.Blk wr (n + 2) (List.replicate 8 (v32 0#32)) 112
 wd : Li.Blk wr (n + 3) L 113
 b : Below n w wr
theorem RInv.drew {n : Nat} {ks s : List (BitVec 32)} {w wr : World} {L : List Value} (h : RInv n ks s w L wr) : RInv n ks s w L wr.drew := ⟨h.s0, h.k, h.r, h.wd, h.b.drew⟩
theorem RInv.drewN {n : Nat} {ks s : List (BitVec 32)} {w wr : World} {L : List Value} (h : RInv n ks s w L wr) (m : Nat) : RInv n ks s w L (wr.drewN m) := ⟨h.s0, h.k, h.r, h.wd, Li.below_drewN h.b m⟩
theorem RInv.ext {n : Nat} {ks s : List (BitVec 32)} {w wr wx : World} {L : List Value} (h : RInv n ks s w L wr) (e : Hv.Ext wr wx) : RInv n ks s w L wx :=
 ⟨h.s0.grow e, h.k.grow e, h.r.grow e, h.wd.grow e, h.b.trans (e.mono (by have := h.wd.lt; omega))⟩
theorem RInv.setCells {n : Nat} {ks s : List (BitVec 32)} {w wr : World} {L : List Value} (h : RInv n ks s w L wr) {m : Nat} (hm : n + 3 < m) (vs : List Value) : RInv n ks s w L (wr.setCells m 0 vs) :=
 ⟨h.s0.setCellsOther (by omega) _ _, h.k.setCellsOther (by omega) _ _, h.r.setCellsOther (by omega) _ _, h.wd.setCellsOther (by omega) _ _, Li.below_setCells _ _ _ _ h.b (by omega)⟩
theorem RInv.set {n : Nat} {ks s : List (BitVec 32)} {w wr : World} {L : List Value} (h : RInv n ks s w L wr) (i : Nat) (v : Value) : RInv n ks s w (L.set i v) (wr.setCell ⟨n + 3, i, none⟩ v) :=
 ⟨h.s0.setOther (by simp) _, h.k.setOther (by simp) _, h.r.setOther (by simp) _, h.wd.set i v, h.b.setCell (by simp) _⟩
def IsB (w : World) (g off : Nat) (bs : List (BitVec 8)) : Prop := ∀ i, i < bs.length → w.cell? ⟨g, off + i, none⟩ = some (.int .u8 (n8 (bs.getD i 0)))
theorem IsB.lt {w : World} {g off : Nat} {bs : List (BitVec 8)} (h : IsB w g off bs) (h0 : 0 < bs.length) : g < w.heap.size := World.block_lt_of_cell? _ _ (h 0 h0)
theorem IsB.below {w wr : World} {g off B : Nat} {bs : List (BitVec 8)} (h : IsB w g off bs) (hb : Below B w wr) (hg : g < B) : IsB wr g off bs := fun i hi => (hb.cell (p := ⟨g, off + i, none⟩) hg).trans (h i hi)
end Sha
end Go.Proofs.Ytakdoijemopejaa


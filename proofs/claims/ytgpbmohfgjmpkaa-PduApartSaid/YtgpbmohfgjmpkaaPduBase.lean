/- What the walks of layer 35 share. No condition. -/
import Derived.Test.YtgpbmohfgjmpkaaPduNum
import Derived.Test.YtgpbmohfgjmpkaaAppZ
import Derived.Test.YtgpbmohfgjmpkaaOrd
import Derived.Deep.LoopGhost
import Derived.Deep.DeepCutAuto
import Derived.Deep.CutBlock
import Derived.Deep.Light
import Derived.Outline
import Derived.Handy
import Derived.BigQuiet
import Derived.Recover
set_option linter.unusedSimpArgs false
set_option linter.unusedVariables false
namespace Go.Proofs.Ytgpbmohfgjmpkaa
open Go Go.RowKit
open Li (v8 Blk Rd Fr)
namespace Se
variable {w0 w w' : World} {X : List Nat} {L L' : List At}
/-- What a call has made on its own is laid beside what was there. -/
theorem St.join (h : St w0 X L w) (k : St w [] L' w') (hn : ∀ a ∈ L', a.noRd) : St w0 X (L' ++ L) w' := by
  refine St.turn (P := []) (P' := L') h ?_ k.hold hn k.nd fun b hb => ?_
  · have := k.fr
    simpa [ownedL] using this
  · rcases Nat.lt_or_ge b w.heap.size with hlt | hge
    · exact absurd (k.may b hb hlt) (by simp)
    · exact .inr hge
theorem St.later {w1 : World} (h : Below w.heap.size w w1) (k : St w1 [] L w') (hn : ∀ b ∈ ownedL L, w1.heap.size ≤ b) : St w [] L w' := by
  refine ⟨k.hold, k.nd, k.sep, fun g hg hlt => ?_, ?_⟩
  · have := hn g hg; have := h.size; omega
  · exact (Fr.ext h).trans k.fr fun b _ hx => by simp at hx
end Se
namespace Pd
open Bv (n8 n16 n32 n64)
theorem u8i : (Try.prog.info? 5).map (fun i => (i.zero, i.size)) = some (some (.int .u8 0), 1) := by kernel_rfl
theorem u8i3 : (Try.prog.info? 5).map (fun i => (i.zero, i.size, i.bytes)) = some (some (.int .u8 0), 1, 1) := by kernel_rfl
theorem bysi : (Try.prog.info? 23).map (fun i => (i.zero, i.size)) = some (some (.slice none 0 0), 1) := by kernel_rfl
theorem bysi3 : (Try.prog.info? 23).map (fun i => (i.zero, i.size, i.bytes)) = some (some (.slice none 0 0), 1, 24) := by kernel_rfl
theorem v8i (b : BitVec 8) : v8 b = .int .u8 (n8 b) := rfl
/-- A part of a slice of bytes, as its value lies in memory. -/
structure Pt where
  A : Option Addr
  c : Nat
  bs : List (BitVec 8)
def Pt.v (p : Pt) : Value := .slice p.A p.bs.length p.c
end Pd
end Go.Proofs.Ytgpbmohfgjmpkaa

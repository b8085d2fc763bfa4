/- Walks of sha.Step and of the reference's Step. -/
import Derived.Test.YtakdoijemopejaaGreatShaStep
import Derived.Test.YtakdoijemopejaaGreatShaConst
import Derived.Test.YtakdoijemopejaaGreatShaRef
import Derived.Test.YtakdoijemopejaaGreatShaK
set_option maxRecDepth 100000
set_option linter.unusedSimpArgs false
set_option linter.unusedVariables false
namespace Go.Proofs.YtakdoijemopejaaGreat
open Go.RowKit
namespace Sha
open Bv (n8 n16 n32 n64)
theorem K64_length : K64.length = 64 := by decide +kernel
theorem H8_length : H8.length = 8 := by decide +kernel
theorem stepL_length (ks s : List (BitVec 32)) (bs : List (BitVec 8)) (hs : s.length = 8) : (stepL ks s bs).length = 8 := by
 have hr : ∀ k, (rnds ks (sched bs 64) s k).length = 8 := by
  intro k
  induction k with
  | zero => simpa [rnds] using hs
  | succ k ih =>
   rw [rnds]
   match hh : rnds ks (sched bs 64) s k, ih with
   | [a, b, c, d, e, f, g, h], _ => rfl
 unfold stepL; rw [List.length_zipWith, hr, hs]; rfl
attribute [local irreducible] K64 H8 stepL
end Sha
end Go.Proofs.YtakdoijemopejaaGreat


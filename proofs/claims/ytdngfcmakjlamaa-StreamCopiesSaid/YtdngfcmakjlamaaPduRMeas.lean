/- Layer 35: the reference's Measure. No condition but Go's own limits. -/
import Derived.Test.YtdngfcmakjlamaaPduMeasW
import Derived.Test.YtdngfcmakjlamaaPduRef
set_option linter.unusedSimpArgs false
set_option linter.unusedVariables false
namespace Go.Proofs.Ytdngfcmakjlamaa
open Go Go.RowKit
namespace Pd
open Se (St At Reads Cell)
open Li (v8 v8_one Rd Blk Fr)
open Bv (n8 n16 n32 n64)
variable {w0 w : World} {X : List Nat} {L : List At}
attribute [local irreducible] Calls
def fbad (k fl : Nat) (f : Fm) : Bool := decide (15 < fl) || (bit fl 2 && !decide (k = 6) && !decide (k = 7)) || (bit fl 3 && (!decide (k = 7) || !bit fl 2)) || !(bit fl 0 == decide (0 < hsum k f)) || (bit fl 1 && (decide (k < 4) || !f.dd))
def lbad (k hl at0 : Nat) (f : Fm) : Bool := !decide (hl = hdr k) || (!decide (at0 = 0) && !decide (at0 = start k f)) || (!decide (at0 = 0) && decide (most k = 0)) || (decide (at0 = 0) && (decide (k = 6) || decide (k = 7)))
def tbad (k fl at0 total : Nat) (f : Fm) : Bool := !(bit fl 1 == decide (0 < dsum k f (decide (0 < at0)))) || (decide (at0 = 0) && !decide (total = hdr k + hsum k f)) || (decide (0 < at0) && (decide (total < at0 + 1 + dsum k f (decide (0 < at0))) || decide (at0 + most k + dsum k f (decide (0 < at0)) < total)))
theorem rchain_eq (b : List (BitVec 8)) (f : Fm) (h1 : framed f = true) (h2 : 8 ≤ b.length) {k fl hl at0 tot : Nat} (e0 : k = (b.getD 0 0#8).toNat) (e1 : fl = (b.getD 1 0#8).toNat) (e2 : hl = (b.getD 2 0#8).toNat) (e3 : at0 = (b.getD 3 0#8).toNat) (e4 : tot = bigL (sub b 4 8)) :
  meas b f = if hdr k = 0 then (0, 360) else if fbad k fl f = true then (0, 361) else if lbad k hl at0 f = true then (0, 362) else if tbad k fl at0 tot f = true then (0, 362) else (tot, 0) := by
 subst e0 e1 e2 e3 e4
 unfold meas
 rw [if_neg (by rw [h1]; decide), if_neg (by omega)]
 dsimp only
 generalize (b.getD 0 0#8).toNat = k
 generalize (b.getD 1 0#8).toNat = fl
 generalize (b.getD 2 0#8).toNat = hl
 generalize (b.getD 3 0#8).toNat = at0
 generalize bigL (sub b 4 8) = tot
 have g1 : (15 < fl ∨ bit fl 2 = true ∧ k ≠ 6 ∧ k ≠ 7 ∨ bit fl 3 = true ∧ (k ≠ 7 ∨ bit fl 2 = false) ∨ bit fl 0 ≠ decide (0 < hsum k f) ∨ bit fl 1 = true ∧ (k < 4 ∨ f.dd = false)) ↔ fbad k fl f = true := by
  unfold fbad; simp; grind
 have g2 : (hl ≠ hdr k ∨ at0 ≠ 0 ∧ at0 ≠ start k f ∨ at0 ≠ 0 ∧ most k = 0 ∨ at0 = 0 ∧ (k = 6 ∨ k = 7)) ↔ lbad k hl at0 f = true := by
  unfold lbad; simp; grind
 have g3 : (bit fl 1 ≠ decide (0 < dsum k f (decide (0 < at0))) ∨ at0 = 0 ∧ tot ≠ hdr k + hsum k f ∨ 0 < at0 ∧ (tot < at0 + 1 + dsum k f (decide (0 < at0)) ∨ at0 + most k + dsum k f (decide (0 < at0)) < tot)) ↔ tbad k fl at0 tot f = true := by
  unfold tbad; simp; grind
 simp only [g1, g2, g3]
end Pd
end Go.Proofs.Ytdngfcmakjlamaa


/- Layer 35 in plain Lean: the checks of the common header, one after the other. No condition. -/
import Derived.Test.YtdngfcmakjlamaaPduEq
set_option linter.unusedSimpArgs false
set_option linter.unusedVariables false
namespace Go.Proofs.Ytdngfcmakjlamaa
open Go Go.RowKit
namespace Pd
open Bv (n8 n16 n32 n64)
def c4 (k fl : Nat) : Bool := decide (fl < 16) && (!bit fl 2 || decide (k = 6 ∨ k = 7))
def c5 (k fl : Nat) : Bool := !bit fl 3 || (decide (k = 7) && bit fl 2)
def c6 (k fl : Nat) (f : Fm) : Bool := (bit fl 0 == decide (0 < hsum k f)) && (!bit fl 1 || (f.dd && !decide (k ≤ 3)))
def c7 (k hl at0 : Nat) (f : Fm) : Bool := decide (hl = hdr k) && (decide (at0 = 0) || decide (at0 = start k f))
def c8 (k fl at0 : Nat) (f : Fm) : Bool := bit fl 1 == decide (0 < dsum k f (decide (0 < at0)))
def c9 (k at0 total : Nat) (f : Fm) : Bool := if at0 = 0 then decide (least k = 0) && decide (total = hdr k + hsum k f) else decide (0 < most k) && decide (at0 + 1 + dsum k f (decide (0 < at0)) ≤ total) && decide (total ≤ at0 + most k + dsum k f (decide (0 < at0)))
/-- The checks. -/
def mch (b : List (BitVec 8)) (f : Fm) : Nat × Nat :=
 if framed f = false then (0, 2) else
 if b.length < 8 then (0, 4) else
 let k := (b.getD 0 0#8).toNat
 let fl := (b.getD 1 0#8).toNat
 let hl := (b.getD 2 0#8).toNat
 let at0 := (b.getD 3 0#8).toNat
 let total := bigL (sub b 4 8)
 if decide (hdr k ≠ 0) = false then (0, 360) else
 if c4 k fl = false then (0, 361) else
 if c5 k fl = false then (0, 361) else
 if c6 k fl f = false then (0, 361) else
 if c7 k hl at0 f = false then (0, 362) else
 if c8 k fl at0 f = false then (0, 362) else
 if c9 k at0 total f = false then (0, 362) else
 (total, 0)
theorem least_iff (k : Nat) : least k = 0 ↔ ¬ (k = 6 ∨ k = 7) := by
 unfold least
 split
 ·omega
 ·omega
 ·rename_i h1 h2
  exact ⟨fun _ h => h.elim h1 h2, fun _ => rfl⟩
theorem flags_iff (k fl : Nat) (f : Fm) : (15 < fl ∨ bit fl 2 = true ∧ k ≠ 6 ∧ k ≠ 7 ∨ bit fl 3 = true ∧ (k ≠ 7 ∨ bit fl 2 = false) ∨ bit fl 0 ≠ decide (0 < hsum k f) ∨ bit fl 1 = true ∧ (k < 4 ∨ f.dd = false)) ↔ ¬ (c4 k fl = true ∧ c5 k fl = true ∧ c6 k fl f = true) := by
 unfold c4 c5 c6
 have h1 : decide (fl < 16) = true ↔ ¬ 15 < fl := by simp; omega
 have h2 : decide (k ≤ 3) = true ↔ k < 4 := by simp; omega
 have h3 : decide (k = 6 ∨ k = 7) = true ↔ (k = 6 ∨ k = 7) := by simp
 have h4 : decide (k = 7) = true ↔ k = 7 := by simp
 generalize decide (fl < 16) = x1 at *
 generalize decide (k ≤ 3) = x2 at *
 generalize decide (k = 6 ∨ k = 7) = x3 at *
 generalize decide (k = 7) = x4 at *
 generalize decide (0 < hsum k f) = x5 at *
 generalize bit fl 0 = y0 at *
 generalize bit fl 1 = y1 at *
 generalize bit fl 2 = y2 at *
 generalize bit fl 3 = y3 at *
 generalize f.dd = dd at *
 grind
theorem len_iff (k fl hl at0 total : Nat) (f : Fm) : (¬ (hl ≠ hdr k ∨ at0 ≠ 0 ∧ at0 ≠ start k f ∨ at0 ≠ 0 ∧ most k = 0 ∨ at0 = 0 ∧ (k = 6 ∨ k = 7)) ∧ ¬ (bit fl 1 ≠ decide (0 < dsum k f (decide (0 < at0))) ∨ at0 = 0 ∧ total ≠ hdr k + hsum k f ∨ 0 < at0 ∧ (total < at0 + 1 + dsum k f (decide (0 < at0)) ∨ at0 + most k + dsum k f (decide (0 < at0)) < total))) ↔ (c7 k hl at0 f = true ∧ c8 k fl at0 f = true ∧ c9 k at0 total f = true) := by
 unfold c7 c8 c9
 have hL := least_iff k
 generalize dsum k f (decide (0 < at0)) = d at *
 generalize bit fl 1 = y at *
 generalize least k = l at *
 generalize most k = m at *
 generalize start k f = s at *
 generalize hdr k + hsum k f = t at *
 generalize hdr k = q at *
 by_cases h0 : at0 = 0
 ·subst h0
  simp
  grind
 ·rw [if_neg h0]
  simp [h0]
  grind
theorem meas_eq (b : List (BitVec 8)) (f : Fm) : meas b f = mch b f := by
 unfold meas mch
 split
 ·rfl
 split
 ·rfl
 dsimp only
 generalize (b.getD 0 0#8).toNat = k
 generalize (b.getD 1 0#8).toNat = fl
 generalize (b.getD 2 0#8).toNat = hl
 generalize (b.getD 3 0#8).toNat = at0
 generalize bigL (sub b 4 8) = total
 by_cases hk : hdr k = 0
 ·rw [if_pos hk, if_pos (show decide (hdr k ≠ 0) = false by simp [hk])]
 rw [if_neg hk, if_neg (show ¬ decide (hdr k ≠ 0) = false by simp [hk])]
 have h1 := flags_iff k fl f
 have h2 := len_iff k fl hl at0 total f
 by_cases hf : 15 < fl ∨ bit fl 2 = true ∧ k ≠ 6 ∧ k ≠ 7 ∨ bit fl 3 = true ∧ (k ≠ 7 ∨ bit fl 2 = false) ∨ bit fl 0 ≠ decide (0 < hsum k f) ∨ bit fl 1 = true ∧ (k < 4 ∨ f.dd = false)
 ·rw [if_pos hf]
  have := h1.1 hf
  clear h1 h2 hf hk
  generalize c4 k fl = x at *
  generalize c5 k fl = y at *
  generalize c6 k fl f = z at *
  cases x <;> cases y <;> cases z <;> simp at this ⊢
 ·rw [if_neg hf]
  have h3 : c4 k fl = true ∧ c5 k fl = true ∧ c6 k fl f = true := Decidable.byContradiction fun h => hf (h1.2 h)
  rw [h3.1, h3.2.1, h3.2.2]
  simp only [Bool.true_eq_false, if_false]
  clear h1 h3 hf hk
  by_cases ha : hl ≠ hdr k ∨ at0 ≠ 0 ∧ at0 ≠ start k f ∨ at0 ≠ 0 ∧ most k = 0 ∨ at0 = 0 ∧ (k = 6 ∨ k = 7)
  ·rw [if_pos ha]
   have : ¬ (c7 k hl at0 f = true ∧ c8 k fl at0 f = true ∧ c9 k at0 total f = true) := fun h => (h2.2 h).1 ha
   clear h2 ha
   generalize c7 k hl at0 f = x at *
   generalize c8 k fl at0 f = y at *
   generalize c9 k at0 total f = z at *
   cases x <;> cases y <;> cases z <;> simp at this ⊢
  ·rw [if_neg ha]
   by_cases hb : bit fl 1 ≠ decide (0 < dsum k f (decide (0 < at0))) ∨ at0 = 0 ∧ total ≠ hdr k + hsum k f ∨ 0 < at0 ∧ (total < at0 + 1 + dsum k f (decide (0 < at0)) ∨ at0 + most k + dsum k f (decide (0 < at0)) < total)
   ·rw [if_pos hb]
    have : ¬ (c7 k hl at0 f = true ∧ c8 k fl at0 f = true ∧ c9 k at0 total f = true) := fun h => (h2.2 h).2 hb
    clear h2 ha hb
    generalize c7 k hl at0 f = x at *
    generalize c8 k fl at0 f = y at *
    generalize c9 k at0 total f = z at *
    cases x <;> cases y <;> cases z <;> simp at this ⊢
   ·rw [if_neg hb]
    have := h2.1 ⟨ha, hb⟩
    rw [this.1, this.2.1, this.2.2]
    simp
theorem bit_and2 : ∀ x : Nat, x < 256 → (bits .and .u8 (x : Int) 4 == 0) = (!bit x 2) ∧ (bits .and .u8 (x : Int) 8 == 0) = (!bit x 3) ∧ (bits .and .u8 (x : Int) 2 == 0) = (!bit x 1) ∧ (bits .and .u8 (x : Int) 1 == 0) = (!bit x 0) := by
 have : ((List.range 256).all fun x => decide ((bits .and .u8 (x : Int) 4 == 0) = (!bit x 2) ∧ (bits .and .u8 (x : Int) 8 == 0) = (!bit x 3) ∧ (bits .and .u8 (x : Int) 2 == 0) = (!bit x 1) ∧ (bits .and .u8 (x : Int) 1 == 0) = (!bit x 0))) = true := by decide +kernel
 intro x hx
 have := List.all_eq_true.1 this x (by simpa using hx)
 simpa using this
end Pd
end Go.Proofs.Ytdngfcmakjlamaa


/- Layer 35: Encode. No condition but Go's own limits. -/
import Derived.Test.YtdngfcmakjlamaaPduSize
import Derived.Test.YtdngfcmakjlamaaPduFlags
import Derived.Test.YtdngfcmakjlamaaPduWrite
set_option linter.unusedSimpArgs false
set_option linter.unusedVariables false
namespace Go.Proofs.Ytdngfcmakjlamaa
open Go Go.RowKit
namespace Pd
open Se (St At Reads Cell)
open Li (v8 v8_one Rd Blk Fr)
open Bv (n8 n16 n32 n64)
variable {w0 w : World} {X : List Nat} {L : List At}
attribute [local irreducible] Calls
def encE (p : PDU) (f : Fm) : List (BitVec 8) × Nat := if framed f = true then if valid p = true then (enc p f, 0) else ([], 2) else ([], 2)
theorem special_eq (p : PDU) (hv : valid p = true) : special p = (match p.h.k.toNat with | 0 | 1 => wInit p.h ++ zs 112 | 2 | 3 => wEnd p.h ++ zs 10 | 4 | 5 => p.en | 9 => wReady p.h ++ zs 4 | _ => wData p.h p.da.length ++ zs 4) := by
 unfold special wInit wEnd wReady wData
 split <;> simp_all
theorem special_len (p : PDU) (hv : valid p = true) : 8 + (special p).length = hdr p.h.k.toNat := by
 rw [valid_eq] at hv
 unfold pv at hv
 dsimp only at hv
 simp only [Bool.and_eq_true, decide_eq_true_eq, Bool.not_eq_true', decide_eq_false_iff_not] at hv
 obtain ⟨⟨⟨⟨⟨h1, h2⟩, _⟩, _⟩, _⟩, _⟩ := hv
 unfold special
 have h2 : p.en.length = entl p.h.k.toNat := by omega
 rcases kinds_cases p.h.k.toNat with h | h
 ·rcases h with h | h | h | h | h | h | h | h | h <;> rw [h] at h2 ⊢ <;> simp [hdr, numL_length, entl] at h2 ⊢ <;> omega
 ·exact absurd (hdr_none _ h) h1
theorem rd1 {w : World} {A : Option Addr} {xs : List Value} (h : Rd w A xs) : St w [] [.rd A xs] w := St.start w (by intro a ha; rw [List.mem_singleton.1 ha]; exact h) (by simp [Se.ownedL, Se.At.owned])
/-- What writes the special header. -/
theorem wri_fn (p : PDU) (hv : valid p = true) : ∃ n, wriF p.h.k.toNat = fnv n ∧ (n = 76 ∨ n = 80 ∨ n = 82 ∨ n = 84 ∨ n = 87) ∧ ∀ {w : World} {EA DA : Option Addr} {en ec dn dc : Nat}, Rd w EA (p.en.map v8) → en = p.en.length → dn = p.da.length → dn ≤ 70368744177664 → Calls Try.prog n #[.agg (pc p.h EA en ec DA dn dc).toArray] w fun e w' => ∃ r B c, e = .returned (.slice B (special p).length c) ∧ St w [] [.own 1 r B (special p).length c ((special p).map v8)] w' := by
 have hl := special_len p hv
 have he := special_eq p hv
 have hk : hdr p.h.k.toNat ≠ 0 := by omega
 rcases kinds_cases p.h.k.toNat with h | h
 ·have key : (p.h.k.toNat = 0 ∨ p.h.k.toNat = 1) ∨ (p.h.k.toNat = 2 ∨ p.h.k.toNat = 3) ∨ (p.h.k.toNat = 4 ∨ p.h.k.toNat = 5) ∨ (p.h.k.toNat = 6 ∨ p.h.k.toNat = 7) ∨ p.h.k.toNat = 9 := by omega
  rcases key with h | h | h | h | h
  ·refine ⟨_, ?_, .inl rfl, fun {w EA DA en ec dn dc} hr h1 h2 h3 => ?_⟩
   ·rcases h with h | h <;> rw [h] <;> rfl
   ·have e : special p = wInit p.h ++ zs 112 := by rw [he]; rcases h with h | h <;> rw [h] <;> rfl
    have e2 : (special p).length = 120 := by rcases h with h | h <;> rw [h] at hl <;> simp [hdr] at hl <;> omega
    rw [e2, e]
    exact writeInit_st (St.start w (by simp) rfl)
  ·refine ⟨_, ?_, .inr (.inl rfl), fun {w EA DA en ec dn dc} hr h1 h2 h3 => ?_⟩
   ·rcases h with h | h <;> rw [h] <;> rfl
   ·have e : special p = wEnd p.h ++ zs 10 := by rw [he]; rcases h with h | h <;> rw [h] <;> rfl
    have e2 : (special p).length = 16 := by rcases h with h | h <;> rw [h] at hl <;> simp [hdr] at hl <;> omega
    rw [e2, e]
    exact writeEnd_st (St.start w (by simp) rfl)
  ·refine ⟨_, ?_, .inr (.inr (.inl rfl)), fun {w EA DA en ec dn dc} hr h1 h2 h3 => ?_⟩
   ·rcases h with h | h <;> rw [h] <;> rfl
   ·have e : special p = p.en := by rw [he]; rcases h with h | h <;> rw [h] <;> rfl
    have el : p.en.length ≤ 64 := by
     rw [e] at hl
     rcases h with h | h <;> rw [h] at hl <;> simp [hdr] at hl <;> omega
    rw [e]
    subst h1
    refine (writeEntry_st (rd1 hr) rfl (Reads.rd 0 rfl) (by omega)).mono ?_
    rintro e w' ⟨r, B, c, h1, h2⟩
    exact ⟨r, B, c, h1, one_of h2⟩
  ·refine ⟨_, ?_, .inr (.inr (.inr (.inl rfl))), fun {w EA DA en ec dn dc} hr h1 h2 h3 => ?_⟩
   ·rcases h with h | h <;> rw [h] <;> rfl
   ·have e : special p = wData p.h p.da.length ++ zs 4 := by rw [he]; rcases h with h | h <;> rw [h] <;> rfl
    have e2 : (special p).length = 16 := by rcases h with h | h <;> rw [h] at hl <;> simp [hdr] at hl <;> omega
    rw [e2, e, ← h2]
    exact writeData_st (St.start w (by simp) rfl)
  ·refine ⟨_, ?_, .inr (.inr (.inr (.inr rfl))), fun {w EA DA en ec dn dc} hr h1 h2 h3 => ?_⟩
   ·rw [h]; rfl
   ·have e : special p = wReady p.h ++ zs 4 := by rw [he, h]; rfl
    have e2 : (special p).length = 16 := by rw [h] at hl; simp [hdr] at hl; omega
    rw [e2, e]
    exact writeReady_st (St.start w (by simp) rfl)
 ·exact absurd (hdr_none _ h) hk
end Pd
end Go.Proofs.Ytdngfcmakjlamaa


/- Layer 35 in plain Lean: different valid PDUs have different encodings. No condition. -/
import Derived.Test.YtdngfcmakjlamaaPduEnc2
set_option linter.unusedSimpArgs false
set_option linter.unusedVariables false
namespace Go.Proofs.Ytdngfcmakjlamaa
open Go Go.RowKit
namespace Pd
theorem hs_eq (p : PDU) (f : Fm) : (if 0 < hs p f then 4 else 0) = hs p f := by unfold hs hsum; split <;> rfl
theorem ds_eq (p : PDU) (f : Fm) : (if 0 < ds p f then 4 else 0) = ds p f := by unfold ds dsum; split <;> rfl
theorem head2_len (p : PDU) (f : Fm) (hv : valid p = true) : (head2 p f).length = hdr p.h.k.toNat + hs p f := by
 unfold head2
 rw [List.length_append, head_len p f hv]
 by_cases h : 0 < hs p f
 ·rw [if_pos h, numL_length, ← hs_eq, if_pos h]
 ·rw [if_neg h]; simp; omega
theorem pre_len (p : PDU) (f : Fm) (hf : framed f = true) (hv : valid p = true) (hd : 0 < p.da.length) : (head2 p f ++ zs (at' p f - (head2 p f).length)).length = start p.h.k.toNat f := by
 have h1 := start_ge p.h.k.toNat hf
 have h2 : hs p f = hsum p.h.k.toNat f := rfl
 rw [List.length_append, List.length_replicate, head2_len p f hv]
 unfold at'
 rw [if_pos hd]
 omega
theorem enc_len (p : PDU) (f : Fm) (hf : framed f = true) (hv : valid p = true) : (enc p f).length = size p f := by
 unfold enc size
 rw [List.length_append, List.length_append]
 have hds := ds_eq p f
 by_cases hd : 0 < p.da.length
 ·rw [pre_len p f hf hv hd, if_pos hd]
  by_cases h : 0 < ds p f
  ·rw [if_pos h] at hds ⊢; rw [numL_length]; omega
  ·rw [if_neg h]; simp; omega
 ·rw [if_neg hd]
  have h0 : ds p f = 0 := by unfold ds dsum; rw [if_neg]; simp [hd]
  have hda : p.da.length = 0 := by omega
  rw [if_neg (by omega), List.length_append, head2_len p f hv, hda]
  unfold at'
  rw [if_neg hd]
  simp
/-- The fields of a valid PDU that its special header does not hold are zero. -/
theorem only_of {p : PDU} (hv : valid p = true) : only p = true ∧ own p = true := by
 unfold valid at hv
 simp only [Bool.and_eq_true] at hv
 exact ⟨hv.1.2, hv.2⟩
end Pd
end Go.Proofs.Ytdngfcmakjlamaa


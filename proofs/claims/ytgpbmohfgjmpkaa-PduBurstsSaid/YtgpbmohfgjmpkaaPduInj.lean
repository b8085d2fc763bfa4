/- Layer 35 in plain Lean: different valid PDUs have different encodings. No condition. -/
import Derived.Test.YtgpbmohfgjmpkaaPduEnc2
set_option linter.unusedSimpArgs false
set_option linter.unusedVariables false
namespace Go.Proofs.Ytgpbmohfgjmpkaa
open Go Go.RowKit
namespace Pd
theorem enc_head (p : PDU) (f : Fm) : ∃ r, enc p f = head p f ++ r := ⟨(if 0 < hs p f then numL (crc (head p f)) 4 else []) ++ (zs (at' p f - (head2 p f).length) ++ (p.da ++ (if 0 < ds p f then numL (crc p.da) 4 else []))), by unfold enc head2; simp only [List.append_assoc]⟩
theorem hs_eq (p : PDU) (f : Fm) : (if 0 < hs p f then 4 else 0) = hs p f := by unfold hs hsum; split <;> rfl
theorem ds_eq (p : PDU) (f : Fm) : (if 0 < ds p f then 4 else 0) = ds p f := by unfold ds dsum; split <;> rfl
theorem head2_len (p : PDU) (f : Fm) (hv : valid p = true) : (head2 p f).length = hdr p.h.k.toNat + hs p f := by
  unfold head2
  rw [List.length_append, head_len p f hv]
  by_cases h : 0 < hs p f
  · rw [if_pos h, numL_length, ← hs_eq, if_pos h]
  · rw [if_neg h]; simp; omega
theorem pre_len (p : PDU) (f : Fm) (hf : framed f = true) (hv : valid p = true) (hd : 0 < p.da.length) : (head2 p f ++ zs (at' p f - (head2 p f).length)).length = start p.h.k.toNat f := by
  have h1 := start_ge p.h.k.toNat hf
  have h2 : hs p f = hsum p.h.k.toNat f := rfl
  rw [List.length_append, List.length_replicate, head2_len p f hv]
  unfold at'
  rw [if_pos hd]
  omega
theorem enc_len (p : PDU) (f : Fm) (hf : framed f = true) (hv : valid p = true) : (enc p f).length = size p f := by
  unfold enc size
  rw [List.length_append, List.length_append]
  have hds := ds_eq p f
  by_cases hd : 0 < p.da.length
  · rw [pre_len p f hf hv hd, if_pos hd]
    by_cases h : 0 < ds p f
    · rw [if_pos h] at hds ⊢; rw [numL_length]; omega
    · rw [if_neg h]; simp; omega
  · rw [if_neg hd]
    have h0 : ds p f = 0 := by unfold ds dsum; rw [if_neg]; simp [hd]
    have hda : p.da.length = 0 := by omega
    rw [if_neg (by omega), List.length_append, head2_len p f hv, hda]
    unfold at'
    rw [if_neg hd]
    simp
theorem numL_inj {a b : BitVec 32} (h : numL a 4 = numL b 4) : a = b := by rw [← w32_numL a, h, w32_numL]
theorem numL2_inj {a b : BitVec 16} (h : numL (a.setWidth 32) 2 = numL (b.setWidth 32) 2) : a = b := by rw [← w16_numL a, h, w16_numL]
theorem flags_inj {p q : PDU} {h d h' d' : Nat} (e : BitVec.ofNat 8 (flagsN p h d) = BitVec.ofNat 8 (flagsN q h' d')) : p.h.la = q.h.la ∧ p.h.su = q.h.su := by
  have e1 := congrArg BitVec.toNat e
  rw [BitVec.toNat_ofNat, BitVec.toNat_ofNat, Nat.mod_eq_of_lt (flagsN_lt p h d), Nat.mod_eq_of_lt (flagsN_lt q h' d')] at e1
  unfold flagsN at e1
  have h1 : (if 0 < h then 1 else 0) ≤ 1 := by split <;> omega
  have h2 : (if 0 < d then 2 else 0) = 0 ∨ (if 0 < d then 2 else 0) = 2 := by split <;> omega
  have h3 : (if 0 < h' then 1 else 0) ≤ 1 := by split <;> omega
  have h4 : (if 0 < d' then 2 else 0) = 0 ∨ (if 0 < d' then 2 else 0) = 2 := by split <;> omega
  generalize (if 0 < h then 1 else 0) = a at *
  generalize (if 0 < d then 2 else 0) = b at *
  generalize (if 0 < h' then 1 else 0) = a' at *
  generalize (if 0 < d' then 2 else 0) = b' at *
  clear e
  generalize p.h.la = la at *
  generalize p.h.su = su at *
  generalize q.h.la = la' at *
  generalize q.h.su = su' at *
  cases la <;> cases su <;> cases la' <;> cases su' <;> simp only [Bool.false_eq_true, if_true, if_false] at e1 ⊢ <;> first | exact ⟨rfl, rfl⟩ | (simp; done) | (exfalso; omega)
/-- The fields of a valid PDU that its special header does not hold are zero. -/
theorem only_of {p : PDU} (hv : valid p = true) : only p = true ∧ own p = true := by
  unfold valid at hv
  simp only [Bool.and_eq_true] at hv
  exact ⟨hv.1.2, hv.2⟩
theorem special_inj {p q : PDU} (hp : valid p = true) (hq : valid q = true) (hk : p.h.k = q.h.k) (hla : p.h.la = q.h.la) (hsu : p.h.su = q.h.su) (he : special p = special q) : p.h = q.h ∧ p.en = q.en := by
  obtain ⟨op, wp⟩ := only_of hp
  obtain ⟨oq, wq⟩ := only_of hq
  have hkp : hdr p.h.k.toNat ≠ 0 := by have := special_len p hp; omega
  obtain ⟨⟨k, la, su, id, tg, of, ln, al, dg, mx, st, nf⟩, en, da⟩ := p
  obtain ⟨⟨k', la', su', id', tg', of', ln', al', dg', mx', st', nf'⟩, en', da'⟩ := q
  dsimp only at hk hla hsu hkp
  subst hk hla hsu
  clear hp hq
  have key : k.toNat = 0 ∨ k.toNat = 1 ∨ k.toNat = 2 ∨ k.toNat = 3 ∨ k.toNat = 4 ∨ k.toNat = 5 ∨ k.toNat = 6 ∨ k.toNat = 7 ∨ k.toNat = 9 := by
    rcases kinds_cases k.toNat with h | h
    · omega
    · exact absurd (hdr_none _ h) hkp
  unfold special at he
  unfold only at op oq
  dsimp only at he op oq
  generalize k.toNat = q at *
  have l4 : ∀ a : BitVec 32, (numL a 4).length = 4 := fun a => numL_length a 4
  have l2 : ∀ a : BitVec 32, (numL a 2).length = 2 := fun a => numL_length a 2
  rcases key with rfl | rfl | rfl | rfl | rfl | rfl | rfl | rfl | rfl
  all_goals simp [decide_eq_true_eq] at op oq
  all_goals (try dsimp only at he)
  · obtain ⟨h1, _⟩ := List.append_inj he (by simp [l4])
    simp at h1
    obtain ⟨h2, h3, h4⟩ := h1
    have := numL_inj h4
    simp_all
  · obtain ⟨h1, _⟩ := List.append_inj he (by simp [l4])
    simp at h1
    obtain ⟨h2, h3, h4⟩ := h1
    have := numL_inj h4
    simp_all
  iterate 2
    · obtain ⟨h1, _⟩ := List.append_inj he (by simp [l4, l2])
      obtain ⟨h2, h3⟩ := List.append_inj h1 (by simp [l2])
      have := numL_inj h3
      have := numL2_inj h2
      simp_all
  iterate 2
    · simp_all
  iterate 2
    · obtain ⟨h1, _⟩ := List.append_inj he (by simp [l4, l2])
      obtain ⟨h1, h5⟩ := List.append_inj h1 (by simp [l4, l2])
      obtain ⟨h1, h4⟩ := List.append_inj h1 (by simp [l4, l2])
      obtain ⟨h2, h3⟩ := List.append_inj h1 (by simp [l4, l2])
      have := numL_inj h4
      have := numL2_inj h3
      have := numL2_inj h2
      simp_all
  · obtain ⟨h1, _⟩ := List.append_inj he (by simp [l4, l2])
    obtain ⟨h1, h5⟩ := List.append_inj h1 (by simp [l4, l2])
    obtain ⟨h1, h4⟩ := List.append_inj h1 (by simp [l4, l2])
    obtain ⟨h2, h3⟩ := List.append_inj h1 (by simp [l4, l2])
    have := numL_inj h5
    have := numL_inj h4
    have := numL2_inj h3
    have := numL2_inj h2
    simp_all
theorem enc_inj {p q : PDU} {f : Fm} (hf : framed f = true) (hp : valid p = true) (hq : valid q = true) (he : enc p f = enc q f) : p = q := by
  obtain ⟨r, e1⟩ := enc_head p f
  obtain ⟨r', e2⟩ := enc_head q f
  have e3 : head p f ++ r = head q f ++ r' := by rw [← e1, ← e2, he]
  have e4 := e3
  unfold head at e4
  simp only [List.cons_append, List.nil_append, List.cons.injEq] at e4
  obtain ⟨hk, hfl, _, _, _⟩ := e4
  have hl : (head p f).length = (head q f).length := by rw [head_len p f hp, head_len q f hq, hk]
  obtain ⟨e5, _⟩ := List.append_inj e3 hl
  unfold head at e5
  obtain ⟨_, e6⟩ := List.append_inj e5 (by simp [numL_length])
  obtain ⟨hla, hsu⟩ := flags_inj hfl
  obtain ⟨hh, hen⟩ := special_inj hp hq hk hla hsu e6
  have hlen : size p f = size q f := by rw [← enc_len p f hf hp, ← enc_len q f hf hq, he]
  have hst := start_ge p.h.k.toNat hf
  have hda : p.da = q.da := by
    have hs1 : hs p f = hsum p.h.k.toNat f := rfl
    have hs2 : hs q f = hsum p.h.k.toNat f := by rw [hk]; rfl
    unfold size at hlen
    rw [hs1, hs2, ← hk] at hlen
    by_cases h1 : 0 < p.da.length
    · by_cases h2 : 0 < q.da.length
      · have hd : ds p f = ds q f := by unfold ds; rw [hk]; simp [h1, h2]
        rw [if_pos h1, if_pos h2, hd] at hlen
        have e7 := he
        unfold enc at e7
        obtain ⟨e8, _⟩ := List.append_inj e7 (by have A := pre_len p f hf hp h1; have B := pre_len q f hf hq h2; rw [← hk] at B; simp only [List.length_append] at A B ⊢; omega)
        exact (List.append_inj e8 (by rw [pre_len p f hf hp h1, pre_len q f hf hq h2, hk])).2
      · exfalso; rw [if_pos h1, if_neg h2] at hlen; omega
    · by_cases h2 : 0 < q.da.length
      · exfalso; rw [if_neg h1, if_pos h2] at hlen; omega
      · rw [List.eq_nil_of_length_eq_zero (show p.da.length = 0 by omega), List.eq_nil_of_length_eq_zero (show q.da.length = 0 by omega)]
  obtain ⟨h, en, da⟩ := p
  obtain ⟨h', en', da'⟩ := q
  simp only at hh hen hda
  rw [hh, hen, hda]
end Pd
end Go.Proofs.Ytgpbmohfgjmpkaa

/- Layer 35 in plain Lean: decoding in the order of the program's text. No condition. -/
import Derived.Test.YtdngfcmakjlamaaPduBase
set_option linter.unusedSimpArgs false
set_option linter.unusedVariables false
namespace Go.Proofs.Ytdngfcmakjlamaa
namespace Pd
def rdH (k : Nat) (s : List (BitVec 8)) (h : Hd) : Hd := match k with
 | 0 | 1 => { h with al := s.getD 2 0#8, dg := s.getD 3 0#8, mx := w32 (sub s 4 8) }
 | 2 | 3 => { h with st := w16 (s.take 2), nf := w32 (sub s 2 6) }
 | 4 | 5 => h
 | _ => { h with id := w16 (s.take 2), tg := w16 (sub s 2 4), of := w32 (sub s 4 8), ln := w32 (sub s 8 12) }
def rdE (k : Nat) (s : List (BitVec 8)) : List (BitVec 8) := match k with
 | 4 | 5 => s
 | _ => []
def rdR (k : Nat) (s : List (BitVec 8)) : List (BitVec 8) := match k with
 | 0 | 1 => s.take 2 ++ s.drop 8
 | 2 | 3 => s.drop 6
 | 4 | 5 => []
 | _ => s.drop 12
def clr (k : Nat) (h : Hd) : Hd := if k = 6 ∨ k = 7 then { h with ln := 0#32 } else h
theorem zeros_append (a b : List (BitVec 8)) : zeros (a ++ b) = (zeros a && zeros b) := by unfold zeros; exact List.all_append
theorem hdr_cases {k : Nat} (h : hdr k ≠ 0) : k = 0 ∨ k = 1 ∨ k = 2 ∨ k = 3 ∨ k = 4 ∨ k = 5 ∨ k = 6 ∨ k = 7 ∨ k = 9 := by
 unfold hdr at h
 split at h <;> first | omega | (exact absurd rfl h)
def hd0 (k fl : Nat) : Hd := { k := BitVec.ofNat 8 k, la := bit fl 2, su := bit fl 3 }
def lenB (k : Nat) (s : List (BitVec 8)) (n : Nat) : Bool := !decide (k = 6 ∨ k = 7) || decide ((w32 (sub s 8 12)).toNat = n)
theorem w32_toNat (a : List (BitVec 8)) (h : a.length ≤ 4) : (w32 a).toNat = bigL a := by
 have h1 := bigL_lt a
 have : 256 ^ a.length ≤ 256 ^ 4 := Nat.pow_le_pow_right (by omega) h
 unfold w32; rw [BitVec.toNat_ofNat]; omega
theorem parse_eq {k : Nat} (fl : Nat) (s data : List (BitVec 8)) (hk : hdr k ≠ 0) :
  parse k fl s data = ({ h := clr k (rdH k s (hd0 k fl)), en := rdE k s, da := data }, zeros (rdR k s) && lenB k s data.length) := by
 have e0 : sub s 0 2 = s.take 2 := by simp
 have e8 := w32_toNat (sub s 8 12) (by simp; omega)
 rcases hdr_cases hk with rfl | rfl | rfl | rfl | rfl | rfl | rfl | rfl | rfl <;> simp [parse, clr, rdH, rdE, rdR, hd0, lenB, zeros_append, e0] <;> first | rfl | (rw [e8]; rfl) | rw [e8]
/-- The checks behind the header, in order; the first that fails gives the error. -/
def B3 (b : List (BitVec 8)) (f : Fm) (k : Nat) : Bool := decide (hsum k f = 0) || (w32 (sub b (hdr k) (hdr k + hsum k f)) == crc (b.take (hdr k)))
def dat (b : List (BitVec 8)) (f : Fm) (k at0 t : Nat) : List (BitVec 8) := if 0 < at0 then sub b at0 (t - dsum k f (decide (0 < at0))) else []
def rest (b : List (BitVec 8)) (f : Fm) (k at0 : Nat) : List (BitVec 8) := rdR k (sub b 8 (hdr k)) ++ if 0 < at0 then sub b (hdr k + hsum k f) at0 else []
def pdu (b : List (BitVec 8)) (f : Fm) (k fl at0 t : Nat) : PDU := { h := clr k (rdH k (sub b 8 (hdr k)) (hd0 k fl)), en := rdE k (sub b 8 (hdr k)), da := dat b f k at0 t }
def B7 (b : List (BitVec 8)) (f : Fm) (k at0 t : Nat) : Bool := decide (dsum k f (decide (0 < at0)) = 0) || (w32 (b.drop (t - dsum k f (decide (0 < at0)))) == crc (dat b f k at0 t))
def chainD (b : List (BitVec 8)) (f : Fm) (k fl at0 t : Nat) : Nat :=
 if B3 b f k = false then 364 else
 if zeros (rest b f k at0) = false then 363 else
 if lenB k (sub b 8 (hdr k)) (dat b f k at0 t).length = false then 363 else
 if valid (pdu b f k fl at0 t) = false then 363 else
 if B7 b f k at0 t = false then 365 else 0
theorem hsum_or (k : Nat) (f : Fm) : hsum k f = 0 ∨ hsum k f = 4 := by unfold hsum; split <;> simp
theorem dsum_or (k : Nat) (f : Fm) (x : Bool) : dsum k f x = 0 ∨ dsum k f x = 4 := by unfold dsum; split <;> simp
theorem meas_ok {b : List (BitVec 8)} {f : Fm} {t : Nat} (h : meas b f = (t, 0)) :
  framed f = true ∧ 8 ≤ b.length ∧ hdr (b.getD 0 0#8).toNat ≠ 0 ∧ (b.getD 2 0#8).toNat = hdr (b.getD 0 0#8).toNat ∧ t = bigL (sub b 4 8) ∧
  (((b.getD 3 0#8).toNat = 0 ∧ t = hdr (b.getD 0 0#8).toNat + hsum (b.getD 0 0#8).toNat f) ∨
   (0 < (b.getD 3 0#8).toNat ∧ (b.getD 3 0#8).toNat = start (b.getD 0 0#8).toNat f ∧ (b.getD 3 0#8).toNat + 1 + dsum (b.getD 0 0#8).toNat f true ≤ t ∧ t ≤ (b.getD 3 0#8).toNat + most (b.getD 0 0#8).toNat + dsum (b.getD 0 0#8).toNat f true)) := by
 unfold meas at h
 by_cases h1 : framed f = false
 ·rw [if_pos h1] at h; cases h
 rw [if_neg h1] at h
 by_cases h2 : b.length < 8
 ·rw [if_pos h2] at h; cases h
 rw [if_neg h2] at h
 dsimp only at h
 generalize (b.getD 0 0#8).toNat = k at h ⊢
 generalize (b.getD 1 0#8).toNat = fl at h ⊢
 generalize (b.getD 2 0#8).toNat = hl at h ⊢
 generalize (b.getD 3 0#8).toNat = at0 at h ⊢
 split at h
 ·cases h
 rename_i h3
 split at h
 ·cases h
 split at h
 ·cases h
 rename_i h5
 split at h
 ·cases h
 rename_i h6
 simp only [Prod.mk.injEq, and_true] at h
 refine ⟨by simpa using h1, by omega, h3, by omega, h.symm, ?_⟩
 by_cases h0 : at0 = 0
 ·left; subst h0; refine ⟨rfl, ?_⟩; simp at h6; omega
 ·right
  have h7 : decide (0 < at0) = true := by simp; omega
  rw [h7] at h6
  refine ⟨by omega, by omega, by omega, by omega⟩
theorem start_pos {k : Nat} {f : Fm} (h : framed f = true) (hk : hdr k ≠ 0) : hdr k + hsum k f ≤ start k f := by
 have h2 : 0 ≤ f.al ∧ f.al ≤ 31 := of_decide_eq_true h
 have h1 : 1 ≤ unit k f := by unfold unit; split <;> omega
 unfold start
 have := Nat.div_add_mod (hdr k + hsum k f + unit k f - 1) (unit k f)
 have h2 := Nat.mod_lt (hdr k + hsum k f + unit k f - 1) (show 0 < unit k f by omega)
 rw [Nat.mul_comm] at this
 omega
theorem dec_eq {b : List (BitVec 8)} {f : Fm} {t : Nat} (hm : meas b f = (t, 0)) :
  dec b f = if b.length < t then ({}, 4) else if t < b.length then ({}, 366) else
   if chainD b f (b.getD 0 0#8).toNat (b.getD 1 0#8).toNat (b.getD 3 0#8).toNat t = 0 then (pdu b f (b.getD 0 0#8).toNat (b.getD 1 0#8).toNat (b.getD 3 0#8).toNat t, 0)
   else ({}, chainD b f (b.getD 0 0#8).toNat (b.getD 1 0#8).toNat (b.getD 3 0#8).toNat t) := by
 obtain ⟨q1, q2, q3, q4, q5, q6⟩ := meas_ok hm
 unfold dec
 rw [hm]
 dsimp only
 rw [if_neg (by decide : ¬ (0 : Nat) ≠ 0)]
 by_cases h1 : b.length < t
 ·rw [if_pos h1, if_pos h1]
 rw [if_neg h1, if_neg h1]
 by_cases h2 : t < b.length
 ·rw [if_pos h2, if_pos h2]
 rw [if_neg h2, if_neg h2]
 generalize (b.getD 0 0#8).toNat = k at *
 generalize (b.getD 1 0#8).toNat = fl at *
 generalize (b.getD 2 0#8).toNat = hl at *
 generalize (b.getD 3 0#8).toNat = at0 at *
 have hbt : b.length = t := by omega
 have hst := start_pos q1 q3
 have hlen : hdr k + hsum k f ≤ t := by rcases q6 with ⟨_, h⟩ | ⟨_, h, h', _⟩ <;> omega
 have e3 : (0 < hsum k f ∧ sub b (hdr k) (hdr k + 4) ≠ numL (crc (b.take (hdr k))) 4) ↔ B3 b f k = false := by
  unfold B3
  rcases hsum_or k f with h | h
  ·simp [h]
  ·rw [h]
   have := numL_eq_iff (sub b (hdr k) (hdr k + 4)) (by simp; omega) (crc (b.take (hdr k)))
   simp only [Nat.lt_irrefl, Nat.zero_lt_succ, true_and, Bool.or_eq_false_iff, beq_eq_false_iff_ne, ne_eq, this]
   simp
 have e7 : (0 < dsum k f (decide (0 < at0)) ∧ b.drop (t - 4) ≠ numL (crc (dat b f k at0 t)) 4) ↔ B7 b f k at0 t = false := by
  unfold B7
  rcases dsum_or k f (decide (0 < at0)) with h | h
  ·simp [h]
  ·rw [h]
   have h8 : 4 ≤ t := by
    rcases q6 with ⟨h0, _⟩ | ⟨_, _, h', _⟩
    ·subst h0; simp [dsum] at h
    ·omega
   have := numL_eq_iff (b.drop (t - 4)) (by simp; omega) (crc (dat b f k at0 t))
   simp only [Nat.lt_irrefl, Nat.zero_lt_succ, true_and, Bool.or_eq_false_iff, beq_eq_false_iff_ne, ne_eq, this]
   simp
 have ep := parse_eq fl (sub b 8 (hdr k)) (dat b f k at0 t) q3
 have ed : (if 0 < at0 then sub b at0 (t - dsum k f (decide (0 < at0))) else []) = dat b f k at0 t := rfl
 rw [ed]
 simp only [e3, e7, ep]
 have er : zeros (rest b f k at0) = (zeros (rdR k (sub b 8 (hdr k))) && zeros (if 0 < at0 then sub b (hdr k + hsum k f) at0 else [])) := zeros_append _ _
 unfold chainD
 rw [er]
 have evp : ({ h := clr k (rdH k (sub b 8 (hdr k)) (hd0 k fl)), en := rdE k (sub b 8 (hdr k)), da := dat b f k at0 t } : PDU) = pdu b f k fl at0 t := rfl
 rw [evp]
 generalize B3 b f k = x3
 generalize zeros (rdR k (sub b 8 (hdr k))) = z1
 generalize zeros (if 0 < at0 then sub b (hdr k + hsum k f) at0 else []) = z2
 generalize lenB k (sub b 8 (hdr k)) (dat b f k at0 t).length = l1
 generalize valid (pdu b f k fl at0 t) = v
 generalize B7 b f k at0 t = x7
 cases x3 <;> cases z1 <;> cases z2 <;> cases l1 <;> cases v <;> cases x7 <;> rfl
end Pd
end Go.Proofs.Ytdngfcmakjlamaa


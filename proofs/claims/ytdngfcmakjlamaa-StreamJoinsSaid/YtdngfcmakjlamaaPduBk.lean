/- Layer 35 in plain Lean: decoding inverts encoding, and what is decoded is encoded back. No condition. -/
import Derived.Test.YtdngfcmakjlamaaPduInj
import Derived.Test.YtdngfcmakjlamaaPduDec
set_option linter.unusedSimpArgs false
set_option linter.unusedVariables false
namespace Go.Proofs.Ytdngfcmakjlamaa
open Go Go.RowKit
namespace Pd
theorem sub_mid {a m c b : List (BitVec 8)} {i j : Nat} (hb : b = a ++ m ++ c) (hi : i = a.length) (hj : j = a.length + m.length) : sub b i j = m := by
 subst hb hi hj
 unfold sub
 rw [List.take_left' (by simp), List.drop_left' rfl]
theorem zeros_zs (n : Nat) : zeros (zs n) = true := by unfold zeros; simp
theorem bit_flags (p : PDU) (h d : Nat) : bit (flagsN p h d) 0 = decide (0 < h) ∧ bit (flagsN p h d) 1 = decide (0 < d) ∧ bit (flagsN p h d) 2 = p.h.la ∧ bit (flagsN p h d) 3 = p.h.su := by
 unfold flagsN bit
 generalize p.h.la = la
 generalize p.h.su = su
 by_cases h1 : 0 < h <;> by_cases h2 : 0 < d <;> cases la <;> cases su <;> simp [h1, h2]
theorem k_cases {p : PDU} (hv : valid p = true) : p.h.k.toNat = 0 ∨ p.h.k.toNat = 1 ∨ p.h.k.toNat = 2 ∨ p.h.k.toNat = 3 ∨ p.h.k.toNat = 4 ∨ p.h.k.toNat = 5 ∨ p.h.k.toNat = 6 ∨ p.h.k.toNat = 7 ∨ p.h.k.toNat = 9 := by
 have hkp : hdr p.h.k.toNat ≠ 0 := by have := special_len p hv; omega
 exact hdr_cases hkp
theorem hdr_ne {p : PDU} (hv : valid p = true) : hdr p.h.k.toNat ≠ 0 := by have := special_len p hv; omega
theorem ofNat_toNat8 (k : BitVec 8) : BitVec.ofNat 8 k.toNat = k := by simp
set_option maxHeartbeats 4000000 in
/-- Reading what was written. -/
theorem rd_special {p : PDU} (hv : valid p = true) {fl : Nat} (h2 : bit fl 2 = p.h.la) (h3 : bit fl 3 = p.h.su) :
  clr p.h.k.toNat (rdH p.h.k.toNat (special p) (hd0 p.h.k.toNat fl)) = p.h ∧ rdE p.h.k.toNat (special p) = p.en ∧ zeros (rdR p.h.k.toNat (special p)) = true ∧ (p.da.length < 4294967296 → lenB p.h.k.toNat (special p) p.da.length = true) := by
 obtain ⟨op, wp⟩ := only_of hv
 have key := k_cases hv
 clear hv
 obtain ⟨⟨k, la, su, id, tg, of, ln, al, dg, mx, st, nf⟩, en, da⟩ := p
 dsimp only at h2 h3 key ⊢
 unfold only at op
 unfold special
 dsimp only at op ⊢
 have hk8 := ofNat_toNat8 k
 unfold hd0
 rw [h2, h3, hk8]
 clear h2 h3 wp
 generalize k.toNat = q at *
 have l4 : ∀ a : BitVec 32, (numL a 4).length = 4 := fun a => numL_length a 4
 have l2 : ∀ a : BitVec 32, (numL a 2).length = 2 := fun a => numL_length a 2
 rcases key with rfl | rfl | rfl | rfl | rfl | rfl | rfl | rfl | rfl
 all_goals simp [decide_eq_true_eq] at op
 all_goals clear hk8
 ·obtain ⟨⟨⟨rfl, rfl, rfl⟩, rfl, rfl, rfl, rfl⟩, rfl, rfl⟩ := op
  have e1 : sub ([0#8, 0#8, al, dg] ++ numL mx 4 ++ zs 112) 4 8 = numL mx 4 := sub_mid rfl (by simp) (by simp [l4])
  have e2 : ([0#8, 0#8, al, dg] ++ numL mx 4 ++ zs 112).drop 8 = zs 112 := List.drop_left' (by simp [l4])
  refine ⟨?_, rfl, ?_, fun _ => rfl⟩
  ·show ({ k := k, al := al, dg := dg, mx := w32 (sub ([0#8, 0#8, al, dg] ++ numL mx 4 ++ zs 112) 4 8) } : Hd) = { k := k, al := al, dg := dg, mx := mx }
   rw [e1, w32_numL]
  ·show zeros ([0#8, 0#8] ++ ([0#8, 0#8, al, dg] ++ numL mx 4 ++ zs 112).drop 8) = true
   rw [e2, zeros_append, zeros_zs]; rfl
 ·obtain ⟨⟨⟨rfl, rfl, rfl⟩, rfl, rfl, rfl, rfl⟩, rfl, rfl⟩ := op
  have e1 : sub ([0#8, 0#8, al, dg] ++ numL mx 4 ++ zs 112) 4 8 = numL mx 4 := sub_mid rfl (by simp) (by simp [l4])
  have e2 : ([0#8, 0#8, al, dg] ++ numL mx 4 ++ zs 112).drop 8 = zs 112 := List.drop_left' (by simp [l4])
  refine ⟨?_, rfl, ?_, fun _ => rfl⟩
  ·show ({ k := k, al := al, dg := dg, mx := w32 (sub ([0#8, 0#8, al, dg] ++ numL mx 4 ++ zs 112) 4 8) } : Hd) = { k := k, al := al, dg := dg, mx := mx }
   rw [e1, w32_numL]
  ·show zeros ([0#8, 0#8] ++ ([0#8, 0#8, al, dg] ++ numL mx 4 ++ zs 112).drop 8) = true
   rw [e2, zeros_append, zeros_zs]; rfl
 ·obtain ⟨⟨⟨rfl, rfl, rfl⟩, rfl, rfl, rfl, rfl⟩, rfl, rfl, rfl⟩ := op
  have e0 : (numL (st.setWidth 32) 2 ++ numL nf 4 ++ zs 10).take 2 = numL (st.setWidth 32) 2 := by rw [List.append_assoc]; exact List.take_left' (l2 _)
  have e1 : sub (numL (st.setWidth 32) 2 ++ numL nf 4 ++ zs 10) 2 6 = numL nf 4 := sub_mid rfl (by simp [l2]) (by simp [l2, l4])
  have e2 : (numL (st.setWidth 32) 2 ++ numL nf 4 ++ zs 10).drop 6 = zs 10 := List.drop_left' (by simp [l4, l2])
  refine ⟨?_, rfl, ?_, fun _ => rfl⟩
  ·show ({ k := k, st := w16 ((numL (st.setWidth 32) 2 ++ numL nf 4 ++ zs 10).take 2), nf := w32 (sub (numL (st.setWidth 32) 2 ++ numL nf 4 ++ zs 10) 2 6) } : Hd) = { k := k, st := st, nf := nf }
   rw [e0, e1, w32_numL, w16_numL]
  ·show zeros ((numL (st.setWidth 32) 2 ++ numL nf 4 ++ zs 10).drop 6) = true
   rw [e2, zeros_zs]
 ·obtain ⟨⟨⟨rfl, rfl, rfl⟩, rfl, rfl, rfl, rfl⟩, rfl, rfl, rfl⟩ := op
  have e0 : (numL (st.setWidth 32) 2 ++ numL nf 4 ++ zs 10).take 2 = numL (st.setWidth 32) 2 := by rw [List.append_assoc]; exact List.take_left' (l2 _)
  have e1 : sub (numL (st.setWidth 32) 2 ++ numL nf 4 ++ zs 10) 2 6 = numL nf 4 := sub_mid rfl (by simp [l2]) (by simp [l2, l4])
  have e2 : (numL (st.setWidth 32) 2 ++ numL nf 4 ++ zs 10).drop 6 = zs 10 := List.drop_left' (by simp [l4, l2])
  refine ⟨?_, rfl, ?_, fun _ => rfl⟩
  ·show ({ k := k, st := w16 ((numL (st.setWidth 32) 2 ++ numL nf 4 ++ zs 10).take 2), nf := w32 (sub (numL (st.setWidth 32) 2 ++ numL nf 4 ++ zs 10) 2 6) } : Hd) = { k := k, st := st, nf := nf }
   rw [e0, e1, w32_numL, w16_numL]
  ·show zeros ((numL (st.setWidth 32) 2 ++ numL nf 4 ++ zs 10).drop 6) = true
   rw [e2, zeros_zs]
 ·obtain ⟨⟨⟨rfl, rfl⟩, rfl, rfl, rfl, rfl⟩, ⟨rfl, rfl, rfl⟩, rfl, rfl⟩ := op
  exact ⟨rfl, rfl, rfl, fun _ => rfl⟩
 ·obtain ⟨⟨⟨rfl, rfl⟩, rfl, rfl, rfl, rfl⟩, ⟨rfl, rfl, rfl⟩, rfl, rfl⟩ := op
  exact ⟨rfl, rfl, rfl, fun _ => rfl⟩
 ·obtain ⟨⟨⟨rfl, rfl⟩, rfl⟩, ⟨rfl, rfl, rfl⟩, rfl, rfl⟩ := op
  generalize hn : da.length = n
  have e0 : (numL (id.setWidth 32) 2 ++ numL (tg.setWidth 32) 2 ++ numL of 4 ++ numL (BitVec.ofNat 32 n) 4 ++ zs 4).take 2 = numL (id.setWidth 32) 2 := by simp only [List.append_assoc]; exact List.take_left' (l2 _)
  have e1 : sub (numL (id.setWidth 32) 2 ++ numL (tg.setWidth 32) 2 ++ numL of 4 ++ numL (BitVec.ofNat 32 n) 4 ++ zs 4) 2 4 = numL (tg.setWidth 32) 2 := sub_mid (a := numL (id.setWidth 32) 2) (c := numL of 4 ++ numL (BitVec.ofNat 32 n) 4 ++ zs 4) (by simp only [List.append_assoc]) (by simp [l2]) (by simp [l2])
  have e2 : sub (numL (id.setWidth 32) 2 ++ numL (tg.setWidth 32) 2 ++ numL of 4 ++ numL (BitVec.ofNat 32 n) 4 ++ zs 4) 4 8 = numL of 4 := sub_mid (c := numL (BitVec.ofNat 32 n) 4 ++ zs 4) (a := numL (id.setWidth 32) 2 ++ numL (tg.setWidth 32) 2) (by simp only [List.append_assoc]) (by simp [l2]) (by simp [l2, l4])
  have e3 : sub (numL (id.setWidth 32) 2 ++ numL (tg.setWidth 32) 2 ++ numL of 4 ++ numL (BitVec.ofNat 32 n) 4 ++ zs 4) 8 12 = numL (BitVec.ofNat 32 n) 4 := sub_mid rfl (by simp [l2, l4]) (by simp [l2, l4])
  have e4 : (numL (id.setWidth 32) 2 ++ numL (tg.setWidth 32) 2 ++ numL of 4 ++ numL (BitVec.ofNat 32 n) 4 ++ zs 4).drop 12 = zs 4 := List.drop_left' (by simp [l4, l2])
  refine ⟨?_, rfl, ?_, fun h => ?_⟩
  ·show ({ k := k, la := la, su := false, id := w16 ((numL (id.setWidth 32) 2 ++ numL (tg.setWidth 32) 2 ++ numL of 4 ++ numL (BitVec.ofNat 32 n) 4 ++ zs 4).take 2), tg := w16 (sub (numL (id.setWidth 32) 2 ++ numL (tg.setWidth 32) 2 ++ numL of 4 ++ numL (BitVec.ofNat 32 n) 4 ++ zs 4) 2 4), of := w32 (sub (numL (id.setWidth 32) 2 ++ numL (tg.setWidth 32) 2 ++ numL of 4 ++ numL (BitVec.ofNat 32 n) 4 ++ zs 4) 4 8), ln := 0#32 } : Hd) = { k := k, la := la, su := false, id := id, tg := tg, of := of }
   rw [e0, e1, e2, w32_numL, w16_numL, w16_numL]
  ·show zeros ((numL (id.setWidth 32) 2 ++ numL (tg.setWidth 32) 2 ++ numL of 4 ++ numL (BitVec.ofNat 32 n) 4 ++ zs 4).drop 12) = true
   rw [e4, zeros_zs]
  ·show (!true || decide ((w32 (sub (numL (id.setWidth 32) 2 ++ numL (tg.setWidth 32) 2 ++ numL of 4 ++ numL (BitVec.ofNat 32 n) 4 ++ zs 4) 8 12)).toNat = n)) = true
   rw [e3, w32_numL, BitVec.toNat_ofNat, Nat.mod_eq_of_lt h]; simp
 ·obtain ⟨⟨⟨_, rfl⟩, rfl, rfl⟩, ⟨rfl, rfl, rfl⟩, rfl, rfl⟩ := op
  generalize hn : da.length = n
  have e0 : (numL (id.setWidth 32) 2 ++ numL ((0#16).setWidth 32) 2 ++ numL of 4 ++ numL (BitVec.ofNat 32 n) 4 ++ zs 4).take 2 = numL (id.setWidth 32) 2 := by simp only [List.append_assoc]; exact List.take_left' (l2 _)
  have e1 : sub (numL (id.setWidth 32) 2 ++ numL ((0#16).setWidth 32) 2 ++ numL of 4 ++ numL (BitVec.ofNat 32 n) 4 ++ zs 4) 2 4 = numL ((0#16).setWidth 32) 2 := sub_mid (a := numL (id.setWidth 32) 2) (c := numL of 4 ++ numL (BitVec.ofNat 32 n) 4 ++ zs 4) (by simp only [List.append_assoc]) (by simp [l2]) (by simp [l2])
  have e2 : sub (numL (id.setWidth 32) 2 ++ numL ((0#16).setWidth 32) 2 ++ numL of 4 ++ numL (BitVec.ofNat 32 n) 4 ++ zs 4) 4 8 = numL of 4 := sub_mid (c := numL (BitVec.ofNat 32 n) 4 ++ zs 4) (a := numL (id.setWidth 32) 2 ++ numL ((0#16).setWidth 32) 2) (by simp only [List.append_assoc]) (by simp [l2]) (by simp [l2, l4])
  have e3 : sub (numL (id.setWidth 32) 2 ++ numL ((0#16).setWidth 32) 2 ++ numL of 4 ++ numL (BitVec.ofNat 32 n) 4 ++ zs 4) 8 12 = numL (BitVec.ofNat 32 n) 4 := sub_mid rfl (by simp [l2, l4]) (by simp [l2, l4])
  have e4 : (numL (id.setWidth 32) 2 ++ numL ((0#16).setWidth 32) 2 ++ numL of 4 ++ numL (BitVec.ofNat 32 n) 4 ++ zs 4).drop 12 = zs 4 := List.drop_left' (by simp [l4, l2])
  refine ⟨?_, rfl, ?_, fun h => ?_⟩
  ·show ({ k := k, la := la, su := su, id := w16 ((numL (id.setWidth 32) 2 ++ numL ((0#16).setWidth 32) 2 ++ numL of 4 ++ numL (BitVec.ofNat 32 n) 4 ++ zs 4).take 2), tg := w16 (sub (numL (id.setWidth 32) 2 ++ numL ((0#16).setWidth 32) 2 ++ numL of 4 ++ numL (BitVec.ofNat 32 n) 4 ++ zs 4) 2 4), of := w32 (sub (numL (id.setWidth 32) 2 ++ numL ((0#16).setWidth 32) 2 ++ numL of 4 ++ numL (BitVec.ofNat 32 n) 4 ++ zs 4) 4 8), ln := 0#32 } : Hd) = { k := k, la := la, su := su, id := id, tg := 0#16, of := of }
   rw [e0, e1, e2, w32_numL, w16_numL, w16_numL]
  ·show zeros ((numL (id.setWidth 32) 2 ++ numL ((0#16).setWidth 32) 2 ++ numL of 4 ++ numL (BitVec.ofNat 32 n) 4 ++ zs 4).drop 12) = true
   rw [e4, zeros_zs]
  ·show (!true || decide ((w32 (sub (numL (id.setWidth 32) 2 ++ numL ((0#16).setWidth 32) 2 ++ numL of 4 ++ numL (BitVec.ofNat 32 n) 4 ++ zs 4) 8 12)).toNat = n)) = true
   rw [e3, w32_numL, BitVec.toNat_ofNat, Nat.mod_eq_of_lt h]; simp
 ·obtain ⟨⟨rfl, rfl, rfl⟩, ⟨rfl, rfl, rfl⟩, rfl, rfl⟩ := op
  have e0 : (numL (id.setWidth 32) 2 ++ numL (tg.setWidth 32) 2 ++ numL of 4 ++ numL ln 4 ++ zs 4).take 2 = numL (id.setWidth 32) 2 := by simp only [List.append_assoc]; exact List.take_left' (l2 _)
  have e1 : sub (numL (id.setWidth 32) 2 ++ numL (tg.setWidth 32) 2 ++ numL of 4 ++ numL ln 4 ++ zs 4) 2 4 = numL (tg.setWidth 32) 2 := sub_mid (a := numL (id.setWidth 32) 2) (c := numL of 4 ++ numL ln 4 ++ zs 4) (by simp only [List.append_assoc]) (by simp [l2]) (by simp [l2])
  have e2 : sub (numL (id.setWidth 32) 2 ++ numL (tg.setWidth 32) 2 ++ numL of 4 ++ numL ln 4 ++ zs 4) 4 8 = numL of 4 := sub_mid (c := numL ln 4 ++ zs 4) (a := numL (id.setWidth 32) 2 ++ numL (tg.setWidth 32) 2) (by simp only [List.append_assoc]) (by simp [l2]) (by simp [l2, l4])
  have e3 : sub (numL (id.setWidth 32) 2 ++ numL (tg.setWidth 32) 2 ++ numL of 4 ++ numL ln 4 ++ zs 4) 8 12 = numL ln 4 := sub_mid rfl (by simp [l2, l4]) (by simp [l2, l4])
  have e4 : (numL (id.setWidth 32) 2 ++ numL (tg.setWidth 32) 2 ++ numL of 4 ++ numL ln 4 ++ zs 4).drop 12 = zs 4 := List.drop_left' (by simp [l4, l2])
  refine ⟨?_, rfl, ?_, fun _ => rfl⟩
  ·show ({ k := k, la := false, su := false, id := w16 ((numL (id.setWidth 32) 2 ++ numL (tg.setWidth 32) 2 ++ numL of 4 ++ numL ln 4 ++ zs 4).take 2), tg := w16 (sub (numL (id.setWidth 32) 2 ++ numL (tg.setWidth 32) 2 ++ numL of 4 ++ numL ln 4 ++ zs 4) 2 4), of := w32 (sub (numL (id.setWidth 32) 2 ++ numL (tg.setWidth 32) 2 ++ numL of 4 ++ numL ln 4 ++ zs 4) 4 8), ln := w32 (sub (numL (id.setWidth 32) 2 ++ numL (tg.setWidth 32) 2 ++ numL of 4 ++ numL ln 4 ++ zs 4) 8 12) } : Hd) = { k := k, id := id, tg := tg, of := of, ln := ln }
   rw [e0, e1, e2, e3, w32_numL, w32_numL, w16_numL, w16_numL]
  ·show zeros ((numL (id.setWidth 32) 2 ++ numL (tg.setWidth 32) 2 ++ numL of 4 ++ numL ln 4 ++ zs 4).drop 12) = true
   rw [e4, zeros_zs]
theorem start_lt {k : Nat} {f : Fm} (hf : framed f = true) (hk : hdr k ≠ 0) : start k f < 256 := by
 have h2 : 0 ≤ f.al ∧ f.al ≤ 31 := of_decide_eq_true hf
 have h1 : start k f ≤ hdr k + hsum k f + unit k f - 1 := by unfold start; exact Nat.div_mul_le_self _ _
 have h3 := hsum_or k f
 rcases hdr_cases hk with rfl | rfl | rfl | rfl | rfl | rfl | rfl | rfl | rfl <;> simp [unit, hdr] at h1 <;> (try simp [hsum] at h1) <;> (try split at h1) <;> omega
theorem most_le (k : Nat) : most k ≤ 1048576 := by unfold most; split <;> omega
theorem hdr_bd {k : Nat} (hk : hdr k ≠ 0) : 24 ≤ hdr k ∧ hdr k ≤ 128 := by
 rcases hdr_cases hk with rfl | rfl | rfl | rfl | rfl | rfl | rfl | rfl | rfl <;> decide
theorem valid_parts {p : PDU} (hv : valid p = true) : p.da.length ≤ most p.h.k.toNat := by
 unfold valid at hv
 simp only [Bool.and_eq_true, decide_eq_true_eq] at hv
 exact hv.1.1.2
theorem toNat_ofNat8 {n : Nat} (h : n < 256) : (BitVec.ofNat 8 n).toNat = n := by rw [BitVec.toNat_ofNat]; omega
theorem flagsN_lt16 (p : PDU) (h d : Nat) : flagsN p h d < 16 := by unfold flagsN; split <;> split <;> split <;> split <;> omega
/-- Which flags a valid PDU may bear, which kinds have data. -/
theorem only_flags {p : PDU} (hv : valid p = true) : (p.h.la = true → p.h.k.toNat = 6 ∨ p.h.k.toNat = 7) ∧ (p.h.su = true → p.h.k.toNat = 7 ∧ p.h.la = true) ∧ (p.h.k.toNat = 6 ∨ p.h.k.toNat = 7 → 0 < p.da.length) := by
 obtain ⟨op, wp⟩ := only_of hv
 have key := k_cases hv
 clear hv
 obtain ⟨⟨k, la, su, id, tg, of, ln, al, dg, mx, st, nf⟩, en, da⟩ := p
 dsimp only at key ⊢
 unfold only at op
 unfold own at wp
 dsimp only at op wp
 generalize k.toNat = q at *
 rcases key with rfl | rfl | rfl | rfl | rfl | rfl | rfl | rfl | rfl
 all_goals simp [decide_eq_true_eq] at op
 all_goals simp_all
 intro hsu
 rcases op.1.1.1 with h | h
 ·rw [h] at hsu; cases hsu
 ·exact h
theorem at_lt {p : PDU} {f : Fm} (hf : framed f = true) (hv : valid p = true) : at' p f < 256 := by
 unfold at'
 split
 ·exact start_lt hf (hdr_ne hv)
 ·decide
theorem size_lt {p : PDU} {f : Fm} (hf : framed f = true) (hv : valid p = true) : size p f < 2000000 := by
 have h1 := start_lt hf (hdr_ne hv)
 have h2 := hdr_bd (hdr_ne hv)
 have h3 := most_le p.h.k.toNat
 have h4 := valid_parts hv
 have h5 := hsum_or p.h.k.toNat f
 have h6 := dsum_or p.h.k.toNat f (decide (0 < p.da.length))
 unfold size ds hs
 split <;> omega
theorem enc_get (p : PDU) (f : Fm) : (enc p f).getD 0 0#8 = p.h.k ∧ (enc p f).getD 1 0#8 = BitVec.ofNat 8 (flagsN p (hs p f) (ds p f)) ∧ (enc p f).getD 2 0#8 = BitVec.ofNat 8 (hdr p.h.k.toNat) ∧ (enc p f).getD 3 0#8 = BitVec.ofNat 8 (at' p f) := ⟨rfl, rfl, rfl, rfl⟩
theorem enc_tot (p : PDU) (f : Fm) : sub (enc p f) 4 8 = numL (BitVec.ofNat 32 (size p f)) 4 := by
 refine sub_mid (a := [p.h.k, BitVec.ofNat 8 (flagsN p (hs p f) (ds p f)), BitVec.ofNat 8 (hdr p.h.k.toNat), BitVec.ofNat 8 (at' p f)]) (c := special p ++ (if 0 < hs p f then numL (crc (head p f)) 4 else []) ++ zs (at' p f - (head2 p f).length) ++ p.da ++ (if 0 < ds p f then numL (crc p.da) 4 else [])) ?_ rfl (by simp [numL_length])
 unfold enc
 conv => lhs; unfold head2
 conv => lhs; unfold head
 simp only [List.append_assoc]
 rfl
theorem meas_enc {p : PDU} {f : Fm} (hf : framed f = true) (hv : valid p = true) : meas (enc p f) f = (size p f, 0) := by
 obtain ⟨g0, g1, g2, g3⟩ := enc_get p f
 have hk := hdr_ne hv
 have hbd := hdr_bd hk
 have hst := start_pos hf hk
 have hatl := at_lt hf hv
 have hlen := enc_len p f hf hv
 have hsz := size_lt hf hv
 have hda := valid_parts hv
 obtain ⟨o1, o2, o3⟩ := only_flags hv
 obtain ⟨b0, b1, b2, b3⟩ := bit_flags p (hs p f) (ds p f)
 have hsize : size p f = if 0 < p.da.length then start p.h.k.toNat f + p.da.length + ds p f else hdr p.h.k.toNat + hs p f := rfl
 have hat : at' p f = if 0 < p.da.length then start p.h.k.toNat f else 0 := rfl
 have hdz : decide (0 < at' p f) = decide (0 < p.da.length) := by
  rw [hat]
  by_cases h : 0 < p.da.length
  ·rw [if_pos h]; simp [h]; omega
  ·rw [if_neg h]; simp [h]
 unfold meas
 rw [if_neg (by simp [hf]), if_neg (by rw [hlen]; rw [hsize]; split <;> omega)]
 dsimp only
 rw [g0, g1, g2, g3, enc_tot, bigL_numL, toNat_ofNat8 (flagsN_lt p _ _), toNat_ofNat8 (show hdr p.h.k.toNat < 256 by omega), toNat_ofNat8 hatl, BitVec.toNat_ofNat, Nat.mod_eq_of_lt (show size p f < 2 ^ 32 by omega)]
 rw [if_neg hk, b0, b1, b2, b3, hdz]
 have hfl := flagsN_lt16 p (hs p f) (ds p f)
 have hds : ds p f = dsum p.h.k.toNat f (decide (0 < p.da.length)) := rfl
 have hhs : hs p f = hsum p.h.k.toNat f := rfl
 rw [if_neg ?_, if_neg ?_, ← hds, if_neg ?_]
 ·rintro (h | ⟨h1, h2⟩ | ⟨h1, h2 | h2⟩)
  ·exact h rfl
  ·rw [hat] at h1; rw [hsize] at h2
   by_cases h : 0 < p.da.length
   ·rw [if_pos h] at h1; omega
   ·rw [if_neg h, ← hhs] at h2; exact h2 rfl
  ·rw [hat] at h1 h2; rw [hsize] at h2
   by_cases h : 0 < p.da.length
   ·rw [if_pos h, if_pos h] at h2; omega
   ·rw [if_neg h] at h1; omega
  ·rw [hat] at h1 h2; rw [hsize] at h2
   by_cases h : 0 < p.da.length
   ·rw [if_pos h, if_pos h] at h2; omega
   ·rw [if_neg h] at h1; omega
 ·rintro (h | ⟨h1, h2⟩ | ⟨h1, h2⟩ | ⟨h1, h2⟩)
  ·exact h rfl
  ·rw [hat] at h1 h2
   by_cases h : 0 < p.da.length
   ·rw [if_pos h] at h2; exact h2 rfl
   ·rw [if_neg h] at h1; exact h1 rfl
  ·rw [hat] at h1
   by_cases h : 0 < p.da.length
   ·omega
   ·rw [if_neg h] at h1; exact h1 rfl
  ·have := o3 h2
   rw [hat, if_pos this] at h1
   omega
 ·rintro (h | ⟨h1, h2⟩ | ⟨h1, h2⟩ | h | ⟨h1, h2⟩)
  ·omega
  ·have := o1 h1; omega
  ·have h3 := o2 h1
   rcases h2 with h2 | h2
   ·omega
   ·rw [h3.2] at h2; cases h2
  ·exact h (by rw [hhs])
  ·have h3 : 0 < ds p f := of_decide_eq_true h1
   rw [hds] at h3
   unfold dsum at h3
   split at h3
   ·rename_i h4
    rcases h2 with h2 | h2
    ·omega
    ·rw [h4.2.1] at h2; cases h2.symm
   ·omega
/-- The parts of an encoding. -/
theorem enc_parts {p : PDU} {f : Fm} (hf : framed f = true) (hv : valid p = true) :
  (enc p f).take (hdr p.h.k.toNat) = head p f ∧ sub (enc p f) 8 (hdr p.h.k.toNat) = special p ∧
  (0 < hs p f → sub (enc p f) (hdr p.h.k.toNat) (hdr p.h.k.toNat + hs p f) = numL (crc (head p f)) 4) ∧
  (0 < p.da.length → zeros (sub (enc p f) (hdr p.h.k.toNat + hs p f) (start p.h.k.toNat f)) = true ∧ sub (enc p f) (start p.h.k.toNat f) (size p f - ds p f) = p.da) ∧
  (0 < ds p f → (enc p f).drop (size p f - ds p f) = numL (crc p.da) 4) := by
 have hhl := head_len p f hv
 have hh2 := head2_len p f hv
 have hsl := special_len p hv
 have e0 : enc p f = head p f ++ ((if 0 < hs p f then numL (crc (head p f)) 4 else []) ++ (zs (at' p f - (head2 p f).length) ++ (p.da ++ (if 0 < ds p f then numL (crc p.da) 4 else [])))) := by
  unfold enc
  generalize zs (at' p f - (head2 p f).length) = z
  unfold head2
  simp only [List.append_assoc]
 have hds : 0 < ds p f → 0 < p.da.length := by
  intro h
  unfold ds dsum at h
  split at h
  ·rename_i h4; exact of_decide_eq_true h4.2.2
  ·omega
 have hds4 : 0 < ds p f → ds p f = 4 := fun h => by have := ds_eq p f; rw [if_pos h] at this; omega
 refine ⟨?_, ?_, ?_, ?_, ?_⟩
 ·rw [e0]; exact List.take_left' hhl
 ·have e1 : head p f = ([p.h.k, BitVec.ofNat 8 (flagsN p (hs p f) (ds p f)), BitVec.ofNat 8 (hdr p.h.k.toNat), BitVec.ofNat 8 (at' p f)] ++ numL (BitVec.ofNat 32 (size p f)) 4) ++ special p := rfl
  obtain ⟨R, hR⟩ : ∃ R, enc p f = head p f ++ R := ⟨_, e0⟩
  rw [hR]
  exact sub_mid (a := [p.h.k, BitVec.ofNat 8 (flagsN p (hs p f) (ds p f)), BitVec.ofNat 8 (hdr p.h.k.toNat), BitVec.ofNat 8 (at' p f)] ++ numL (BitVec.ofNat 32 (size p f)) 4) (c := R) (by rw [e1]) (by simp [numL_length]) (by simp [numL_length]; omega)
 ·intro h
  have h4 : hs p f = 4 := by have := hs_eq p f; rw [if_pos h] at this; omega
  rw [e0, if_pos h]
  refine sub_mid (by rw [List.append_assoc]) hhl.symm ?_
  rw [hhl, numL_length, h4]
 ·intro h
  have hp := pre_len p f hf hv h
  have hz : size p f - ds p f = start p.h.k.toNat f + p.da.length := by
   unfold size; rw [if_pos h]; omega
  constructor
  ·have : sub (enc p f) (hdr p.h.k.toNat + hs p f) (start p.h.k.toNat f) = zs (at' p f - (head2 p f).length) := by
    refine sub_mid (a := head2 p f) (c := p.da ++ (if 0 < ds p f then numL (crc p.da) 4 else [])) ?_ hh2.symm ?_
    ·unfold enc; simp only [List.append_assoc]
    ·rw [← hp, List.length_append]
   rw [this, zeros_zs]
  ·rw [hz]
   exact sub_mid (a := head2 p f ++ zs (at' p f - (head2 p f).length)) rfl hp.symm (by rw [hp])
 ·intro h
  have h0 := hds h
  have hp := pre_len p f hf hv h0
  have hz : size p f - ds p f = start p.h.k.toNat f + p.da.length := by
   unfold size; rw [if_pos h0]; omega
  rw [hz]
  unfold enc
  rw [if_pos h]
  refine List.drop_left' ?_
  rw [List.length_append, hp]
theorem dec_enc {p : PDU} {f : Fm} (hf : framed f = true) (hv : valid p = true) : dec (enc p f) f = (p, 0) := by
 have hm := meas_enc hf hv
 obtain ⟨g0, g1, g2, g3⟩ := enc_get p f
 have hlen := enc_len p f hf hv
 have hk := hdr_ne hv
 have hatl := at_lt hf hv
 obtain ⟨q1, q2, q3, q4, q5⟩ := enc_parts hf hv
 obtain ⟨b0, b1, b2, b3⟩ := bit_flags p (hs p f) (ds p f)
 have hda := valid_parts hv
 have hml := most_le p.h.k.toNat
 obtain ⟨r1, r2, r3, r4⟩ := rd_special hv b2 b3
 have hst := start_pos hf hk
 have hbd := hdr_bd hk
 have hat : at' p f = if 0 < p.da.length then start p.h.k.toNat f else 0 := rfl
 have hdz : decide (0 < at' p f) = decide (0 < p.da.length) := by
  rw [hat]
  by_cases h : 0 < p.da.length
  ·rw [if_pos h]; simp [h]; omega
  ·rw [if_neg h]; simp [h]
 have hds : dsum p.h.k.toNat f (decide (0 < at' p f)) = ds p f := by rw [hdz]; rfl
 have hhs : hsum p.h.k.toNat f = hs p f := rfl
 have edat : dat (enc p f) f p.h.k.toNat (at' p f) (size p f) = p.da := by
  unfold dat
  rw [hds]
  by_cases h : 0 < p.da.length
  ·rw [if_pos (by rw [hat, if_pos h]; omega), hat, if_pos h]; exact (q4 h).2
  ·rw [if_neg (by rw [hat, if_neg h]; omega)]; exact (List.eq_nil_of_length_eq_zero (by omega)).symm
 have epdu : pdu (enc p f) f p.h.k.toNat (flagsN p (hs p f) (ds p f)) (at' p f) (size p f) = p := by
  unfold pdu
  rw [q2, r1, r2, edat]
 have ech : chainD (enc p f) f p.h.k.toNat (flagsN p (hs p f) (ds p f)) (at' p f) (size p f) = 0 := by
  unfold chainD
  have x3 : B3 (enc p f) f p.h.k.toNat = true := by
   unfold B3
   rw [hhs]
   by_cases h : 0 < hs p f
   ·rw [q3 h, q1, w32_numL]; simp
   ·simp [show hs p f = 0 by omega]
  have xr : zeros (rest (enc p f) f p.h.k.toNat (at' p f)) = true := by
   unfold rest
   rw [zeros_append, q2, r3, hhs]
   by_cases h : 0 < p.da.length
   ·rw [if_pos (by rw [hat, if_pos h]; omega), hat, if_pos h, (q4 h).1]; rfl
   ·rw [if_neg (by rw [hat, if_neg h]; omega)]; rfl
  have x7 : B7 (enc p f) f p.h.k.toNat (at' p f) (size p f) = true := by
   unfold B7
   rw [hds, edat]
   by_cases h : 0 < ds p f
   ·rw [q5 h, w32_numL]; simp
   ·simp [show ds p f = 0 by omega]
  rw [epdu, q2, edat, x3, xr, x7, r4 (by omega), hv]
  rfl
 rw [dec_eq hm, if_neg (by omega), if_neg (by omega), g0, g1, g3, toNat_ofNat8 (show flagsN p (hs p f) (ds p f) < 256 by have := flagsN_lt16 p (hs p f) (ds p f); omega), toNat_ofNat8 hatl, ech, if_pos rfl, epdu]
end Pd
end Go.Proofs.Ytdngfcmakjlamaa


/- Layer 35 in plain Lean: an encoding in which bits within 32 consecutive ones were changed is not decoded. No condition. -/
import Derived.Test.YtgpbmohfgjmpkaaPduBk
set_option linter.unusedSimpArgs false
set_option linter.unusedVariables false
namespace Go.Proofs.Ytgpbmohfgjmpkaa
namespace Pd
theorem crcU_app (s : BitVec 32) (a b : List (BitVec 8)) : crcU s (a ++ b) = crcU (crcU s a) b := by unfold crcU; exact List.foldl_append
theorem crcB_self (s : BitVec 32) : crcB s (s.setWidth 8) = s >>> 8 := by
  rw [← crcB_table, BitVec.xor_self]
  have : (BitVec.setWidth 32 (0#8)) = 0#32 := by decide
  rw [this, crcN_zero, BitVec.xor_zero]
theorem numL4 (v : BitVec 32) : numL v 4 = [v.setWidth 8, (v >>> 8).setWidth 8, (v >>> 16).setWidth 8, (v >>> 24).setWidth 8] := by
  have h0 := byte_shr v 0
  have h1 := byte_shr v 1
  have h2 := byte_shr v 2
  have h3 := byte_shr v 3
  simp only [Nat.mul_zero, Nat.mul_one, BitVec.ushiftRight_zero, Nat.pow_zero, Nat.div_one] at h0 h1 h2 h3
  rw [h0, h1, show (16 : Nat) = 8 * 2 from rfl, show (24 : Nat) = 8 * 3 from rfl, h2, h3]
  unfold numL
  simp only [numN, Nat.div_div_eq_div_mul, Nat.pow_one]
theorem crcU_self (s : BitVec 32) : crcU s (numL s 4) = 0#32 := by
  rw [numL4]
  show crcB (crcB (crcB (crcB s (s.setWidth 8)) ((s >>> 8).setWidth 8)) ((s >>> 16).setWidth 8)) ((s >>> 24).setWidth 8) = 0#32
  rw [crcB_self, crcB_self]
  have e1 : s >>> 8 >>> 8 = s >>> 16 := by rw [← BitVec.shiftRight_add]
  rw [e1, crcB_self]
  have e2 : s >>> 16 >>> 8 = s >>> 24 := by rw [← BitVec.shiftRight_add]
  rw [e2, crcB_self, ← BitVec.shiftRight_add]
  apply BitVec.eq_of_getLsbD_eq
  intro i hi
  simp
theorem numL_xor (x y : BitVec 32) : numL (x ^^^ y) 4 = List.zipWith (· ^^^ ·) (numL x 4) (numL y 4) := by
  rw [numL4, numL4, numL4]
  simp only [BitVec.ushiftRight_xor_distrib, BitVec.setWidth_xor, List.zipWith_cons_cons, List.zipWith_nil_left]
theorem crc_diff (m m' : List (BitVec 8)) (hl : m.length = m'.length) : crcU 0#32 (List.zipWith (· ^^^ ·) m m') = crc m ^^^ crc m' := by
  have h := crcU_xor m m' 0xFFFFFFFF#32 0xFFFFFFFF#32 hl
  rw [BitVec.xor_self] at h
  rw [h]
  unfold crc
  apply BitVec.eq_of_getLsbD_eq
  intro i hi
  simp only [BitVec.getLsbD_xor, BitVec.getLsbD_not, hi, decide_true, Bool.true_and]
  cases (crcU 0xFFFFFFFF#32 m).getLsbD i <;> cases (crcU 0xFFFFFFFF#32 m').getLsbD i <;> rfl
theorem diff_zero (m m' : List (BitVec 8)) (hl : m.length = m'.length) : crcU 0#32 (List.zipWith (· ^^^ ·) (m ++ numL (crc m) 4) (m' ++ numL (crc m') 4)) = 0#32 := by
  rw [List.zipWith_append hl, crcU_app, crc_diff m m' hl, ← numL_xor, crcU_self]
def bitAt (l : List (BitVec 8)) (i : Nat) : Bool := (l.getD (i / 8) 0#8).getLsbD (i % 8)
theorem flat_bits : ∀ (D : List (BitVec 8)) (i : Nat), (D.flatMap bitsB).getD i false = bitAt D i
  | [], i => by simp [bitAt]
  | b :: D, i => by
    rw [List.flatMap_cons, List.getD_eq_getElem?_getD]
    unfold bitAt
    by_cases h : i < 8
    · rw [List.getElem?_append_left (by simpa [bitsB] using h), Nat.div_eq_of_lt h, Nat.mod_eq_of_lt h]
      simp [bitsB, h]
    · rw [List.getElem?_append_right (by simp [bitsB]; omega), show i / 8 = (i - 8) / 8 + 1 by omega, show i % 8 = (i - 8) % 8 by omega]
      have := flat_bits D (i - 8)
      rw [List.getD_eq_getElem?_getD] at this
      simp only [bitsB, List.length_map, List.length_range, List.getD_cons_succ]
      exact this
theorem zip_get (x y : List (BitVec 8)) (hl : x.length = y.length) (j : Nat) : (List.zipWith (· ^^^ ·) x y).getD j 0#8 = x.getD j 0#8 ^^^ y.getD j 0#8 := by
  simp only [List.getD_eq_getElem?_getD, List.getElem?_zipWith]
  by_cases h : j < x.length
  · rw [List.getElem?_eq_getElem h, List.getElem?_eq_getElem (by omega)]; rfl
  · rw [List.getElem?_eq_none (by omega), List.getElem?_eq_none (by omega)]; rfl
/-- Two texts with their checksums behind them that differ within 32 consecutive bits alone are equal. -/
theorem burst_eq (m m' : List (BitVec 8)) (hl : m.length = m'.length) (a : Nat) (hb : ∀ i, bitAt (m ++ numL (crc m) 4) i ≠ bitAt (m' ++ numL (crc m') 4) i → a ≤ i ∧ i < a + 32) : m ++ numL (crc m) 4 = m' ++ numL (crc m') 4 := by
  have hz := diff_zero m m' hl
  have hlen : (m ++ numL (crc m) 4).length = (m' ++ numL (crc m') 4).length := by simp [numL_length, hl]
  generalize m ++ numL (crc m) 4 = x at *
  generalize m' ++ numL (crc m') 4 = y at *
  have hD := burst (List.zipWith (· ^^^ ·) x y) a (fun i _ h => by
    rw [flat_bits] at h
    refine hb i fun e => ?_
    unfold bitAt at h e
    rw [zip_get x y hlen, BitVec.getLsbD_xor, e, Bool.xor_self] at h
    cases h) hz
  apply List.ext_getElem hlen
  intro j h1 h2
  have h3 : j < (List.zipWith (· ^^^ ·) x y).length := by rw [List.length_zipWith]; omega
  have := hD _ (List.getElem_mem h3)
  rw [List.getElem_zipWith] at this
  have e := congrArg (· ^^^ y[j]) this
  simp only [BitVec.xor_assoc, BitVec.xor_self, BitVec.xor_zero, BitVec.zero_xor] at e
  exact e
theorem bit_app (u v : List (BitVec 8)) (i : Nat) : bitAt (u ++ v) (8 * u.length + i) = bitAt v i := by
  unfold bitAt
  rw [show (8 * u.length + i) / 8 = u.length + i / 8 by omega, show (8 * u.length + i) % 8 = i % 8 by omega]
  simp only [List.getD_eq_getElem?_getD]
  rw [List.getElem?_append_right (by omega), Nat.add_sub_cancel_left]
theorem bits_eq {x y : List (BitVec 8)} (hl : x.length = y.length) {n : Nat} (h : ∀ i, i < 8 * n → bitAt x i = bitAt y i) : x.take n = y.take n := by
  apply List.ext_getElem (by simp [hl])
  intro j h1 h2
  have hj : j < n ∧ j < x.length := by rw [List.length_take] at h1; omega
  rw [List.getElem_take, List.getElem_take]
  apply BitVec.eq_of_getLsbD_eq
  intro i hi
  have := h (8 * j + i) (by omega)
  unfold bitAt at this
  rw [show (8 * j + i) / 8 = j by omega, show (8 * j + i) % 8 = i by omega] at this
  simp only [List.getD_eq_getElem?_getD] at this
  rw [List.getElem?_eq_getElem hj.2, List.getElem?_eq_getElem (by omega)] at this
  exact this
theorem enc_no {p : PDU} {f : Fm} (h1 : hs p f = 4) (h2 : p.da = []) : enc p f = head p f ++ numL (crc (head p f)) 4 := by
  have h3 : ds p f = 0 := by unfold ds dsum; rw [h2]; simp
  have h4 : at' p f = 0 := by unfold at'; rw [h2]; simp
  unfold enc
  rw [h3, h4, h2]
  conv => lhs; unfold head2
  rw [h1]
  simp
theorem enc_yes {p : PDU} {f : Fm} (h1 : ds p f = 4) : enc p f = (head2 p f ++ zs (at' p f - (head2 p f).length)) ++ (p.da ++ numL (crc p.da) 4) := by
  unfold enc
  rw [h1]
  simp
/-- Where the changes lie: behind the common header; with data, from the data on. -/
def fromB (p : PDU) (f : Fm) : Nat := if 0 < p.da.length then size p f - p.da.length - 4 else 8
theorem bursts {p : PDU} {f : Fm} (hf : framed f = true) (hv : valid p = true) (hk : 3 < p.h.k.toNat) (h1 : f.hd = true) (h2 : f.dd = true) {b : List (BitVec 8)} (hlen : b.length = (enc p f).length) {a : Nat} (ha : 8 * fromB p f ≤ a)
    (hb : ∀ i, bitAt (enc p f) i ≠ bitAt b i → a ≤ i ∧ i < a + 32) {q : PDU} (hd : dec b f = (q, 0)) : enc p f = b := by
  obtain ⟨_, hvq, rfl, _⟩ := enc_dec hd
  have hst := start_pos hf (hdr_ne hv)
  have hbd := hdr_bd (hdr_ne hv)
  have hhs : hs p f = 4 := by unfold hs hsum; rw [if_pos ⟨hk, h1⟩]
  have hdsd : 0 < p.da.length → ds p f = 4 := fun h => by unfold ds dsum; rw [if_pos ⟨hk, h2, by simp [h]⟩]
  have hsz : 0 < p.da.length → size p f - p.da.length - 4 = start p.h.k.toNat f := fun h => by
    have := hdsd h
    unfold size; rw [if_pos h]; omega
  have hlp := enc_len p f hf hv
  have hlq := enc_len q f hf hvq
  have h8 : 8 ≤ fromB p f := by
    unfold fromB
    split
    · rename_i h; rw [hsz h]; omega
    · exact Nat.le_refl _
  have ht8 : (enc p f).take 8 = (enc q f).take 8 := bits_eq hlen.symm fun i hi => by
    by_cases e : bitAt (enc p f) i = bitAt (enc q f) i
    · exact e
    · have := hb i e; omega
  have hkk : p.h.k = q.h.k := by
    have := congrArg (fun l => l.getD 0 0#8) ht8
    exact this
  have hatt : at' p f = at' q f := by
    have : BitVec.ofNat 8 (at' p f) = BitVec.ofNat 8 (at' q f) := congrArg (fun l => l.getD 3 0#8) ht8
    have h3 := congrArg BitVec.toNat this
    rw [toNat_ofNat8 (at_lt hf hv), toNat_ofNat8 (at_lt hf hvq)] at h3
    exact h3
  have hstq := start_pos hf (hdr_ne hvq)
  have hbdq := hdr_bd (hdr_ne hvq)
  have hdd : 0 < p.da.length ↔ 0 < q.da.length := by
    unfold at' at hatt
    by_cases c1 : 0 < p.da.length <;> by_cases c2 : 0 < q.da.length
    · simp [c1, c2]
    · rw [if_pos c1, if_neg c2] at hatt; omega
    · rw [if_neg c1, if_pos c2] at hatt; omega
    · simp [c1, c2]
  have hhsq : hs q f = 4 := by unfold hs hsum; rw [← hkk, if_pos ⟨hk, h1⟩]
  by_cases hda : 0 < p.da.length
  · have hdq := hdd.1 hda
    have hds := hdsd hda
    have hdsq : ds q f = 4 := by unfold ds dsum; rw [← hkk, if_pos ⟨hk, h2, by simp [hdq]⟩]
    have hll : p.da.length = q.da.length := by
      have h5 : size p f = size q f := by rw [← hlp, ← hlq, hlen]
      unfold size at h5
      rw [if_pos hda, if_pos hdq, hds, hdsq, hkk] at h5
      omega
    have e1 := enc_yes hds
    have e2 := enc_yes hdsq
    have p1 := pre_len p f hf hv hda
    have p2 := pre_len q f hf hvq hdq
    rw [← hkk] at p2
    have hfr : fromB p f = start p.h.k.toNat f := by unfold fromB; rw [if_pos hda, hsz hda]
    rw [hfr] at ha
    generalize head2 p f ++ zs (at' p f - (head2 p f).length) = u at *
    generalize head2 q f ++ zs (at' q f - (head2 q f).length) = u' at *
    have hu : u = u' := by
      have := bits_eq (n := start p.h.k.toNat f) hlen.symm fun i hi => by
        by_cases e : bitAt (enc p f) i = bitAt (enc q f) i
        · exact e
        · have := hb i e; omega
      rw [e1, e2, List.take_left' p1, List.take_left' p2] at this
      exact this
    subst hu
    have hbe := burst_eq p.da q.da hll (a - 8 * u.length) (fun i h => by
      have := hb (8 * u.length + i) (by rw [e1, e2, bit_app, bit_app]; exact h)
      omega)
    rw [e1, e2, hbe]
  · have n1 : p.da = [] := List.eq_nil_of_length_eq_zero (by omega)
    have n2 : q.da = [] := List.eq_nil_of_length_eq_zero (by have := mt hdd.2 hda; omega)
    have e1 := enc_no hhs n1
    have e2 := enc_no hhsq n2
    have hhl : (head p f).length = (head q f).length := by rw [head_len p f hv, head_len q f hvq, hkk]
    rw [e1, e2]
    refine burst_eq _ _ hhl a fun i h => hb i ?_
    rw [e1, e2]; exact h
/-- A bit is turned. -/
theorem bit_flip (l : List (BitVec 8)) (j : Nat) (hj : j / 8 < l.length) (i : Nat) : bitAt (l.set (j / 8) (l.getD (j / 8) 0#8 ^^^ 1#8 <<< (j % 8))) i = (bitAt l i ^^ decide (i = j)) := by
  unfold bitAt
  simp only [List.getD_eq_getElem?_getD, List.getElem?_set]
  by_cases h : j / 8 = i / 8
  · rw [if_pos h, if_pos (by omega), ← h]
    simp only [Option.getD_some, BitVec.getLsbD_xor, BitVec.getLsbD_shiftLeft]
    congr 1
    have h8 : i % 8 < 8 := Nat.mod_lt _ (by decide)
    by_cases e : i = j
    · subst e; simp [h8]
    · have hne : i % 8 ≠ j % 8 := by omega
      simp only [h8, decide_true, Bool.true_and, e, decide_false]
      by_cases h3 : i % 8 < j % 8
      · simp [h3]
      · simp only [h3, decide_false, Bool.not_false, Bool.true_and, BitVec.getLsbD_one]
        simp; omega
  · rw [if_neg h]
    have : i ≠ j := fun e => h (by rw [e])
    simp [this]
end Pd
end Go.Proofs.Ytgpbmohfgjmpkaa

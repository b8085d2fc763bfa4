/- CRC-32C in plain Lean: a table, bits, and that a burst of at most 32 bits is seen. No condition. -/
import Derived.Test.YtgpbmohfgjmpkaaPduSpec
set_option linter.unusedSimpArgs false
set_option linter.unusedVariables false
namespace Go.Proofs.Ytgpbmohfgjmpkaa
namespace Pd
theorem xlc {n : Nat} (a b c : BitVec n) : a ^^^ (b ^^^ c) = b ^^^ (a ^^^ c) := by rw [← BitVec.xor_assoc, BitVec.xor_comm a b, BitVec.xor_assoc]
theorem xxc {n : Nat} (a b : BitVec n) : a ^^^ (a ^^^ b) = b := by rw [← BitVec.xor_assoc, BitVec.xor_self, BitVec.zero_xor]
theorem crc1_xor (a b : BitVec 32) : crc1 (a ^^^ b) = crc1 a ^^^ crc1 b := by
  unfold crc1
  rw [BitVec.ushiftRight_xor_distrib, BitVec.getLsbD_xor]
  generalize a >>> 1 = x
  generalize b >>> 1 = y
  cases a.getLsbD 0 <;> cases b.getLsbD 0 <;> simp [BitVec.xor_assoc, BitVec.xor_comm, xlc, xxc]
  all_goals (apply BitVec.eq_of_getLsbD_eq; intro i hi; simp only [BitVec.getLsbD_xor]; cases x.getLsbD i <;> cases y.getLsbD i <;> cases crcPoly.getLsbD i <;> rfl)
theorem crcN_xor : ∀ (n : Nat) (a b : BitVec 32), crcN n (a ^^^ b) = crcN n a ^^^ crcN n b
  | 0, _, _ => rfl
  | n + 1, a, b => by simp only [crcN, crc1_xor, crcN_xor n]
theorem crc1_zero : crc1 0#32 = 0#32 := by decide
theorem crcN_zero : ∀ n, crcN n 0#32 = 0#32
  | 0 => rfl
  | n + 1 => by simp only [crcN, crc1_zero, crcN_zero n]
theorem crc1_eq_zero {s : BitVec 32} (h : crc1 s = 0#32) : s = 0#32 := by
  unfold crc1 at h
  cases hb : s.getLsbD 0 with
  | true =>
    rw [hb, if_pos rfl] at h
    have := congrArg (fun x => x.getLsbD 31) h
    simp [BitVec.getLsbD_xor, crcPoly] at this
  | false =>
    rw [hb] at h
    simp at h
    apply BitVec.eq_of_getLsbD_eq
    intro i hi
    rcases Nat.eq_zero_or_pos i with rfl | hp
    · simpa using hb
    · have := congrArg (fun x => x.getLsbD (i - 1)) h
      simp [BitVec.getLsbD_ushiftRight] at this
      rw [show 1 + (i - 1) = i by omega] at this
      simpa using this
theorem crcN_eq_zero : ∀ (n : Nat) {s : BitVec 32}, crcN n s = 0#32 → s = 0#32
  | 0, _, h => h
  | n + 1, _, h => crc1_eq_zero (crcN_eq_zero n h)
/-- A shift of a word whose last bit is 0. -/
theorem crc1_shl (x : BitVec 32) (h : x.getLsbD 31 = false) : crc1 (x <<< 1) = x := by
  unfold crc1
  rw [if_neg (by simp)]
  apply BitVec.eq_of_getLsbD_eq
  intro i hi
  simp only [BitVec.getLsbD_xor, BitVec.getLsbD_ushiftRight, BitVec.getLsbD_shiftLeft, BitVec.getLsbD_zero, Bool.xor_false]
  by_cases h31 : i = 31
  · subst h31
    rw [h]; simp
  · simp [show 1 + i < 32 by omega]
theorem crcN_shl : ∀ (n : Nat) (x : BitVec 32), (∀ i, 32 ≤ i + n → x.getLsbD i = false) → crcN n (x <<< n) = x
  | 0, x, _ => by simp [crcN]
  | n + 1, x, h => by
    rw [crcN, BitVec.shiftLeft_add, crc1_shl, crcN_shl n]
    · intro i hi; exact h i (by omega)
    · rw [BitVec.getLsbD_shiftLeft]
      by_cases hn : 31 < n
      · simp [hn]
      · simp [show ¬ 31 < n from hn]
        exact h _ (by omega)
/-- A byte by a table of 256 words. -/
theorem crcB_table (s : BitVec 32) (b : BitVec 8) : (s >>> 8) ^^^ crcN 8 ((s.setWidth 8 ^^^ b).setWidth 32) = crcB s b := by
  have e : s ^^^ b.setWidth 32 = ((s >>> 8) <<< 8) ^^^ ((s.setWidth 8 ^^^ b).setWidth 32) := by
    apply BitVec.eq_of_getLsbD_eq
    intro i hi
    simp only [BitVec.getLsbD_xor, BitVec.getLsbD_setWidth, BitVec.getLsbD_shiftLeft, BitVec.getLsbD_ushiftRight]
    by_cases h8 : i < 8
    · simp [h8, hi]
    · simp only [h8, hi, decide_true, decide_false, Bool.true_and, Bool.not_false, Bool.false_and, Bool.and_false, Bool.xor_false, show 8 + (i - 8) = i by omega]
      have : b.getLsbD i = false := BitVec.getLsbD_of_ge _ _ (by omega)
      simp [this]
  unfold crcB
  rw [e, crcN_xor, crcN_shl 8 _ ?_]
  intro i hi
  rw [BitVec.getLsbD_ushiftRight]
  exact BitVec.getLsbD_of_ge _ _ (by omega)
theorem crcB_xor (a b : BitVec 32) (x y : BitVec 8) : crcB (a ^^^ b) (x ^^^ y) = crcB a x ^^^ crcB b y := by
  unfold crcB
  rw [← crcN_xor]
  congr 1
  rw [BitVec.setWidth_xor]
  rw [BitVec.xor_assoc, BitVec.xor_assoc, xlc b]
theorem crcU_xor : ∀ (xs ys : List (BitVec 8)) (a b : BitVec 32), xs.length = ys.length → crcU (a ^^^ b) (List.zipWith (· ^^^ ·) xs ys) = crcU a xs ^^^ crcU b ys
  | [], [], _, _, _ => rfl
  | x :: xs, y :: ys, a, b, h => by
    simp only [List.zipWith_cons_cons, crcU, List.foldl_cons, crcB_xor]
    exact crcU_xor xs ys _ _ (by simpa using h)
  | [], _ :: _, _, _, h => by simp at h
  | _ :: _, [], _, _, h => by simp at h
/-! bit by bit -/
def bw (b : Bool) : BitVec 32 := if b then 1#32 else 0#32
def crcBits (s : BitVec 32) (l : List Bool) : BitVec 32 := l.foldl (fun s b => crc1 (s ^^^ bw b)) s
/-- The first 32 bits of a list. -/
def val : List Bool → BitVec 32
  | [] => 0#32
  | b :: l => bw b ^^^ (val l <<< 1)
theorem val_bit : ∀ (l : List Bool) (i : Nat), i < 32 → (val l).getLsbD i = l.getD i false
  | [], i, _ => by simp [val]
  | b :: l, 0, _ => by cases b <;> simp [val, bw]
  | b :: l, i + 1, h => by
    have ih := val_bit l i (by omega)
    simp only [val, BitVec.getLsbD_xor, BitVec.getLsbD_shiftLeft]
    have : (bw b).getLsbD (i + 1) = false := by cases b <;> simp [bw]
    simp [this, ih]
    intro h2; omega
theorem crcBits_val : ∀ (l : List Bool) (s : BitVec 32), (∀ i, 32 ≤ i → l.getD i false = false) → crcBits s l = crcN l.length (s ^^^ val l)
  | [], s, _ => by simp [crcBits, val, crcN]
  | b :: l, s, h => by
    have h2 : ∀ i, 32 ≤ i → l.getD i false = false := fun i hi => by simpa using h (i + 1) (by omega)
    have ih := crcBits_val l (crc1 (s ^^^ bw b)) h2
    have e : crcBits s (b :: l) = crcBits (crc1 (s ^^^ bw b)) l := rfl
    rw [e, ih, List.length_cons, crcN]
    congr 1
    rw [val, ← BitVec.xor_assoc, crc1_xor (s ^^^ bw b), crc1_shl]
    rw [val_bit l 31 (by omega)]
    simpa using h 32 (by omega)
def bitsB (b : BitVec 8) : List Bool := (List.range 8).map fun i => b.getLsbD i
theorem crcB_bits (s : BitVec 32) (b : BitVec 8) : crcB s b = crcBits s (bitsB b) := by
  rw [crcBits_val]
  · unfold crcB
    have : (bitsB b).length = 8 := by simp [bitsB]
    rw [this]
    congr 2
    apply BitVec.eq_of_getLsbD_eq
    intro i hi
    rw [val_bit _ _ hi]
    simp [bitsB, List.getD]
    by_cases h8 : i < 8
    · simp [h8]; intro; omega
    · simp [List.getElem?_eq_none, h8]
      intro
      exact BitVec.getLsbD_of_ge _ _ (by omega)
  · intro i hi
    rw [List.getD_eq_getElem?_getD, List.getElem?_eq_none (by simp [bitsB]; omega)]; rfl
theorem crcU_bits : ∀ (bs : List (BitVec 8)) (s : BitVec 32), crcU s bs = crcBits s (bs.flatMap bitsB)
  | [], _ => rfl
  | b :: bs, s => by
    have : crcU s (b :: bs) = crcU (crcB s b) bs := rfl
    rw [this, crcU_bits bs, crcB_bits]
    simp [crcBits, List.foldl_append]
theorem crcBits_zeros (n : Nat) (l : List Bool) : crcBits 0#32 (List.replicate n false ++ l) = crcBits 0#32 l := by
  induction n with
  | zero => rfl
  | succ n ih =>
    rw [List.replicate_succ, List.cons_append]
    have : crcBits 0#32 (false :: (List.replicate n false ++ l)) = crcBits (crc1 (0#32 ^^^ bw false)) (List.replicate n false ++ l) := rfl
    rw [this]
    simpa [bw, crc1_zero] using ih
/-- THE BURST: where the bits outside 32 consecutive ones are 0, and the state stays 0, all bits are 0. -/
theorem burst (D : List (BitVec 8)) (a : Nat) (h : ∀ i, i < 8 * D.length → (D.flatMap bitsB).getD i false = true → a ≤ i ∧ i < a + 32) (hz : crcU 0#32 D = 0#32) : ∀ b ∈ D, b = 0#8 := by
  have hlen : ∀ D : List (BitVec 8), (D.flatMap bitsB).length = 8 * D.length := by
    intro D
    induction D with
    | nil => rfl
    | cons b D ih => simp only [List.flatMap_cons, List.length_append, ih, List.length_cons]; simp [bitsB]; omega
  have key : ∀ i, (D.flatMap bitsB).getD i false = false := by
    rw [crcU_bits] at hz
    have hlD := hlen D
    generalize D.flatMap bitsB = l at h hz hlD ⊢
    have hout : ∀ i, ¬ (a ≤ i ∧ i < a + 32) → l.getD i false = false := fun i hi => by
      cases hb : l.getD i false with
      | false => rfl
      | true =>
        exfalso
        have hil : i < l.length := by
          rcases Nat.lt_or_ge i l.length with h1 | h1
          · exact h1
          · rw [List.getD_eq_getElem?_getD, List.getElem?_eq_none h1] at hb; cases hb
        exact hi (h i (by omega) hb)
    by_cases ha : a ≤ l.length
    · have e : l = List.replicate a false ++ l.drop a := by
        apply List.ext_getElem?
        intro i
        by_cases hi : i < a
        · rw [List.getElem?_append_left (by simpa using hi), List.getElem?_replicate, if_pos hi]
          have := hout i (by omega)
          rw [List.getD_eq_getElem?_getD, List.getElem?_eq_getElem (by omega)] at this
          rw [List.getElem?_eq_getElem (by omega)]
          simpa using this
        · rw [List.getElem?_append_right (by simpa using Nat.le_of_not_lt hi), List.length_replicate, List.getElem?_drop]
          congr 1; omega
      rw [e, crcBits_zeros, crcBits_val _ _ (fun i hi => by
        have := hout (a + i) (by omega)
        rw [List.getD_eq_getElem?_getD] at this ⊢
        rw [List.getElem?_drop]; exact this)] at hz
      have hv := crcN_eq_zero _ hz
      rw [BitVec.zero_xor] at hv
      intro i
      by_cases hi : a ≤ i ∧ i < a + 32
      · have := val_bit (l.drop a) (i - a) (by omega)
        rw [hv, BitVec.getLsbD_zero, List.getD_eq_getElem?_getD, List.getElem?_drop, show a + (i - a) = i by omega, ← List.getD_eq_getElem?_getD] at this
        exact this.symm
      · exact hout i hi
    · intro i
      by_cases hi : i < l.length
      · exact hout i (by omega)
      · rw [List.getD_eq_getElem?_getD, List.getElem?_eq_none (by omega)]; rfl
  clear h hz
  induction D with
  | nil => simp
  | cons b D ih =>
    have h0 : b = 0#8 := by
      apply BitVec.eq_of_getLsbD_eq
      intro i hi
      have := key i
      rw [List.flatMap_cons, List.getD_eq_getElem?_getD, List.getElem?_append_left (by simpa [bitsB] using hi)] at this
      simp only [bitsB, List.getElem?_map, List.getElem?_range hi, Option.map_some, Option.getD_some] at this
      simpa using this
    intro x hx
    rcases List.mem_cons.1 hx with rfl | hx
    · exact h0
    · refine ih (fun i => ?_) x hx
      have := key (8 + i)
      rw [List.flatMap_cons, List.getD_eq_getElem?_getD, List.getElem?_append_right (by simp [bitsB])] at this
      simpa [bitsB, List.getD_eq_getElem?_getD] using this
/-- The two ways in which the code writes a shift. -/
theorem crc1_mul (s : BitVec 32) : (s >>> 1) ^^^ ((s &&& 1#32) * crcPoly) = crc1 s := by
  unfold crc1
  congr 1
  cases h : s.getLsbD 0 with
  | true =>
    have : s &&& 1#32 = 1#32 := by
      apply BitVec.eq_of_getLsbD_eq
      intro i hi
      rw [BitVec.getLsbD_and]
      rcases Nat.eq_zero_or_pos i with rfl | hp
      · simp [h]
      · simp [BitVec.getLsbD_one, show ¬ i = 0 by omega]
    rw [this]; simp
  | false =>
    have : s &&& 1#32 = 0#32 := by
      apply BitVec.eq_of_getLsbD_eq
      intro i hi
      rw [BitVec.getLsbD_and]
      rcases Nat.eq_zero_or_pos i with rfl | hp
      · rw [h]; simp
      · simp [BitVec.getLsbD_one, show ¬ i = 0 by omega]
    rw [this]; simp
end Pd
end Go.Proofs.Ytgpbmohfgjmpkaa

/- Layer 35 in plain Lean: checksums, numbers, the fields of a PDU, its encoding and decoding. No condition. -/
import Derived.Test.YtdngfcmakjlamaaBaseA
import Derived.Test.YtdngfcmakjlamaaBaseB
import Derived.Deep.LoopGhost
import Derived.Deep.DeepCutAuto
import Derived.Deep.CutBlock
import Derived.Deep.Light
import Derived.Outline
import Derived.Handy
import Derived.BigQuiet
import Derived.Recover
set_option linter.unusedSimpArgs false
set_option linter.unusedVariables false
namespace Go.Proofs.Ytdngfcmakjlamaa
namespace Pd
/-! ### CRC-32C -/
def crcPoly : BitVec 32 := 0x82F63B78#32
/-- One shift. -/
def crc1 (s : BitVec 32) : BitVec 32 := (s >>> 1) ^^^ (if s.getLsbD 0 then crcPoly else 0#32)
def crcN : Nat → BitVec 32 → BitVec 32
 | 0, s => s
 | n + 1, s => crcN n (crc1 s)
/-- One byte. -/
def crcB (s : BitVec 32) (b : BitVec 8) : BitVec 32 := crcN 8 (s ^^^ b.setWidth 32)
def crcU (s : BitVec 32) (bs : List (BitVec 8)) : BitVec 32 := bs.foldl crcB s
def crc (bs : List (BitVec 8)) : BitVec 32 := ~~~ (crcU 0xFFFFFFFF#32 bs)
/-! ### numbers -/
def bigL : List (BitVec 8) → Nat
 | [] => 0
 | b :: bs => b.toNat + 256 * bigL bs
def numN : Nat → Nat → List (BitVec 8)
 | 0, _ => []
 | n + 1, v => BitVec.ofNat 8 v :: numN n (v / 256)
def numL (v : BitVec 32) (n : Nat) : List (BitVec 8) := numN n v.toNat
abbrev zs (n : Nat) : List (BitVec 8) := List.replicate n 0#8
/-! ### PDUs -/
structure Fm where
 hd : Bool
 dd : Bool
 al : Int
structure Hd where
 k : BitVec 8 := 0#8
 la : Bool := false
 su : Bool := false
 id : BitVec 16 := 0#16
 tg : BitVec 16 := 0#16
 of : BitVec 32 := 0#32
 ln : BitVec 32 := 0#32
 al : BitVec 8 := 0#8
 dg : BitVec 8 := 0#8
 mx : BitVec 32 := 0#32
 st : BitVec 16 := 0#16
 nf : BitVec 32 := 0#32
deriving DecidableEq
structure PDU where
 h : Hd := {}
 en : List (BitVec 8) := []
 da : List (BitVec 8) := []
deriving DecidableEq
def hdr : Nat → Nat
 | 0 | 1 => 128
 | 4 => 72
 | 2 | 3 | 5 | 6 | 7 | 9 => 24
 | _ => 0
def most : Nat → Nat
 | 2 | 3 => 128
 | 4 | 6 | 7 => 1048576
 | _ => 0
def least : Nat → Nat
 | 6 | 7 => 1
 | _ => 0
def entl : Nat → Nat
 | 4 => 64
 | 5 => 16
 | _ => 0
def framed (f : Fm) : Bool := decide (0 ≤ f.al ∧ f.al ≤ 31)
/-- The fields that a kind does not use are zero. -/
def only (p : PDU) : Bool :=
 let k := p.h.k.toNat
 let mv := k = 6 ∨ k = 7
 decide (¬ (p.h.la = true ∧ ¬ mv ∨ p.h.su = true ∧ (k ≠ 7 ∨ p.h.la = false) ∨ p.en ≠ [] ∧ k ≠ 4 ∧ k ≠ 5)) &&
 decide (¬ (p.h.id ≠ 0#16 ∧ ¬ mv ∧ k ≠ 9 ∨ p.h.tg ≠ 0#16 ∧ k ≠ 6 ∧ k ≠ 9 ∨ p.h.of ≠ 0#32 ∧ ¬ mv ∧ k ≠ 9 ∨ p.h.ln ≠ 0#32 ∧ k ≠ 9)) &&
 decide ((p.h.al = 0#8 ∧ p.h.dg = 0#8 ∧ p.h.mx = 0#32 ∨ k < 2) ∧ (p.h.st = 0#16 ∧ p.h.nf = 0#32 ∨ k = 2 ∨ k = 3))
/-- What a kind asks of its own fields. -/
def own (p : PDU) : Bool :=
 match p.h.k.toNat with
 | 0 => decide (p.h.al.toNat ≤ 31 ∧ p.h.dg.toNat ≤ 3)
 | 1 => decide (p.h.al.toNat ≤ 31 ∧ p.h.dg.toNat ≤ 3 ∧ 4096 ≤ p.h.mx.toNat ∧ p.h.mx.toNat % 4 = 0)
 | 4 => decide (p.en.length = 64)
 | 5 => decide (p.en.length = 16)
 | 6 | 7 => decide (0 < p.da.length)
 | 9 => decide (0 < p.h.ln.toNat)
 | _ => true
def valid (p : PDU) : Bool := decide (hdr p.h.k.toNat ≠ 0) && decide (p.da.length ≤ most p.h.k.toNat) && only p && own p
def hsum (k : Nat) (f : Fm) : Nat := if 3 < k ∧ f.hd = true then 4 else 0
def dsum (k : Nat) (f : Fm) (data : Bool) : Nat := if 3 < k ∧ f.dd = true ∧ data = true then 4 else 0
def unit (k : Nat) (f : Fm) : Nat := if 3 < k then 4 * (f.al.toNat + 1) else 4
def start (k : Nat) (f : Fm) : Nat := (hdr k + hsum k f + unit k f - 1) / unit k f * unit k f
def special (p : PDU) : List (BitVec 8) :=
 match p.h.k.toNat with
 | 0 | 1 => [0#8, 0#8, p.h.al, p.h.dg] ++ numL p.h.mx 4 ++ zs 112
 | 2 | 3 => numL (p.h.st.setWidth 32) 2 ++ numL p.h.nf 4 ++ zs 10
 | 4 | 5 => p.en
 | 9 => numL (p.h.id.setWidth 32) 2 ++ numL (p.h.tg.setWidth 32) 2 ++ numL p.h.of 4 ++ numL p.h.ln 4 ++ zs 4
 | _ => numL (p.h.id.setWidth 32) 2 ++ numL (p.h.tg.setWidth 32) 2 ++ numL p.h.of 4 ++ numL (BitVec.ofNat 32 p.da.length) 4 ++ zs 4
def flagsN (p : PDU) (h d : Nat) : Nat := (if 0 < h then 1 else 0) + (if 0 < d then 2 else 0) + (if p.h.la then 4 else 0) + (if p.h.su then 8 else 0)
def at' (p : PDU) (f : Fm) : Nat := if 0 < p.da.length then start p.h.k.toNat f else 0
def hs (p : PDU) (f : Fm) : Nat := hsum p.h.k.toNat f
def ds (p : PDU) (f : Fm) : Nat := dsum p.h.k.toNat f (decide (0 < p.da.length))
def size (p : PDU) (f : Fm) : Nat := if 0 < p.da.length then start p.h.k.toNat f + p.da.length + ds p f else hdr p.h.k.toNat + hs p f
/-- The header without digest. -/
def head (p : PDU) (f : Fm) : List (BitVec 8) :=
 [p.h.k, BitVec.ofNat 8 (flagsN p (hs p f) (ds p f)), BitVec.ofNat 8 (hdr p.h.k.toNat), BitVec.ofNat 8 (at' p f)] ++ numL (BitVec.ofNat 32 (size p f)) 4 ++ special p
def head2 (p : PDU) (f : Fm) : List (BitVec 8) := head p f ++ (if 0 < hs p f then numL (crc (head p f)) 4 else [])
def enc (p : PDU) (f : Fm) : List (BitVec 8) :=
 head2 p f ++ zs (at' p f - (head2 p f).length) ++ p.da ++ (if 0 < ds p f then numL (crc p.da) 4 else [])
/-- The bytes from i on, n of them. -/
abbrev sub (b : List (BitVec 8)) (i j : Nat) : List (BitVec 8) := (b.take j).drop i
def bit (x : Nat) (i : Nat) : Bool := x / 2 ^ i % 2 == 1
/-- The total length, or an error. -/
def meas (b : List (BitVec 8)) (f : Fm) : Nat × Nat :=
 if framed f = false then (0, 2) else
 if b.length < 8 then (0, 4) else
 let k := (b.getD 0 0#8).toNat
 let fl := (b.getD 1 0#8).toNat
 let hl := (b.getD 2 0#8).toNat
 let at0 := (b.getD 3 0#8).toNat
 let total := bigL (sub b 4 8)
 if hdr k = 0 then (0, 360) else
 if 15 < fl ∨ bit fl 2 = true ∧ k ≠ 6 ∧ k ≠ 7 ∨ bit fl 3 = true ∧ (k ≠ 7 ∨ bit fl 2 = false) ∨ bit fl 0 ≠ decide (0 < hsum k f) ∨ bit fl 1 = true ∧ (k < 4 ∨ f.dd = false) then (0, 361) else
 if hl ≠ hdr k ∨ at0 ≠ 0 ∧ at0 ≠ start k f ∨ at0 ≠ 0 ∧ most k = 0 ∨ at0 = 0 ∧ (k = 6 ∨ k = 7) then (0, 362) else
 let d := dsum k f (decide (0 < at0))
 if bit fl 1 ≠ decide (0 < d) ∨ at0 = 0 ∧ total ≠ hdr k + hsum k f ∨ 0 < at0 ∧ (total < at0 + 1 + d ∨ at0 + most k + d < total) then (0, 362) else
 (total, 0)
def zeros (b : List (BitVec 8)) : Bool := b.all (· == 0#8)
def w16 (b : List (BitVec 8)) : BitVec 16 := BitVec.ofNat 16 (bigL b)
def w32 (b : List (BitVec 8)) : BitVec 32 := BitVec.ofNat 32 (bigL b)
/-- The PDU of a header's bytes behind the first eight, and data; and whether the bytes that must be zero are. -/
def parse (k fl : Nat) (s data : List (BitVec 8)) : PDU × Bool :=
 let h : Hd := { k := BitVec.ofNat 8 k, la := bit fl 2, su := bit fl 3 }
 match k with
 | 0 | 1 => ({ h := { h with al := s.getD 2 0#8, dg := s.getD 3 0#8, mx := w32 (sub s 4 8) }, da := data }, zeros (s.take 2) && zeros (s.drop 8))
 | 2 | 3 => ({ h := { h with st := w16 (s.take 2), nf := w32 (sub s 2 6) }, da := data }, zeros (s.drop 6))
 | 4 | 5 => ({ h := h, en := s, da := data }, true)
 | 9 => ({ h := { h with id := w16 (s.take 2), tg := w16 (sub s 2 4), of := w32 (sub s 4 8), ln := w32 (sub s 8 12) }, da := data }, zeros (s.drop 12))
 | _ => ({ h := { h with id := w16 (s.take 2), tg := w16 (sub s 2 4), of := w32 (sub s 4 8) }, da := data }, zeros (s.drop 12) && decide (bigL (sub s 8 12) = data.length))
def dec (b : List (BitVec 8)) (f : Fm) : PDU × Nat :=
 let m := meas b f
 if m.2 ≠ 0 then ({}, m.2) else
 if b.length < m.1 then ({}, 4) else
 if m.1 < b.length then ({}, 366) else
 let k := (b.getD 0 0#8).toNat
 let at0 := (b.getD 3 0#8).toNat
 let n := hdr k
 let h := hsum k f
 let d := dsum k f (decide (0 < at0))
 if 0 < h ∧ sub b n (n + 4) ≠ numL (crc (b.take n)) 4 then ({}, 364) else
 let data := if 0 < at0 then sub b at0 (m.1 - d) else []
 let pad := if 0 < at0 then sub b (n + h) at0 else []
 let r := parse k (b.getD 1 0#8).toNat (sub b 8 n) data
 if r.2 = false ∨ zeros pad = false ∨ valid r.1 = false then ({}, 363) else
 if 0 < d ∧ b.drop (m.1 - 4) ≠ numL (crc data) 4 then ({}, 365) else
 (r.1, 0)
end Pd
end Go.Proofs.Ytdngfcmakjlamaa
/- CRC-32C in plain Lean: a table, bits, and that a burst of at most 32 bits is seen. No condition. -/
namespace Go.Proofs.Ytdngfcmakjlamaa
namespace Pd
theorem xlc {n : Nat} (a b c : BitVec n) : a ^^^ (b ^^^ c) = b ^^^ (a ^^^ c) := by rw [← BitVec.xor_assoc, BitVec.xor_comm a b, BitVec.xor_assoc]
theorem xxc {n : Nat} (a b : BitVec n) : a ^^^ (a ^^^ b) = b := by rw [← BitVec.xor_assoc, BitVec.xor_self, BitVec.zero_xor]
theorem crc1_xor (a b : BitVec 32) : crc1 (a ^^^ b) = crc1 a ^^^ crc1 b := by
 unfold crc1
 rw [BitVec.ushiftRight_xor_distrib, BitVec.getLsbD_xor]
 generalize a >>> 1 = x
 generalize b >>> 1 = y
 cases a.getLsbD 0 <;> cases b.getLsbD 0 <;> simp [BitVec.xor_assoc, BitVec.xor_comm, xlc, xxc]
 all_goals (apply BitVec.eq_of_getLsbD_eq; intro i hi; simp only [BitVec.getLsbD_xor]; cases x.getLsbD i <;> cases y.getLsbD i <;> cases crcPoly.getLsbD i <;> rfl)
theorem crcN_xor : ∀ (n : Nat) (a b : BitVec 32), crcN n (a ^^^ b) = crcN n a ^^^ crcN n b
 | 0, _, _ => rfl
 | n + 1, a, b => by simp only [crcN, crc1_xor, crcN_xor n]
theorem crc1_zero : crc1 0#32 = 0#32 := by decide
theorem crc1_eq_zero {s : BitVec 32} (h : crc1 s = 0#32) : s = 0#32 := by
 unfold crc1 at h
 cases hb : s.getLsbD 0 with
 | true =>
  rw [hb, if_pos rfl] at h
  have := congrArg (fun x => x.getLsbD 31) h
  simp [BitVec.getLsbD_xor, crcPoly] at this
 | false =>
  rw [hb] at h
  simp at h
  apply BitVec.eq_of_getLsbD_eq
  intro i hi
  rcases Nat.eq_zero_or_pos i with rfl | hp
  ·simpa using hb
  ·have := congrArg (fun x => x.getLsbD (i - 1)) h
   simp [BitVec.getLsbD_ushiftRight] at this
   rw [show 1 + (i - 1) = i by omega] at this
   simpa using this
theorem crcN_eq_zero : ∀ (n : Nat) {s : BitVec 32}, crcN n s = 0#32 → s = 0#32
 | 0, _, h => h
 | n + 1, _, h => crc1_eq_zero (crcN_eq_zero n h)
/-- A shift of a word whose last bit is 0. -/
theorem crc1_shl (x : BitVec 32) (h : x.getLsbD 31 = false) : crc1 (x <<< 1) = x := by
 unfold crc1
 rw [if_neg (by simp)]
 apply BitVec.eq_of_getLsbD_eq
 intro i hi
 simp only [BitVec.getLsbD_xor, BitVec.getLsbD_ushiftRight, BitVec.getLsbD_shiftLeft, BitVec.getLsbD_zero, Bool.xor_false]
 by_cases h31 : i = 31
 ·subst h31
  rw [h]; simp
 ·simp [show 1 + i < 32 by omega]
theorem crcN_shl : ∀ (n : Nat) (x : BitVec 32), (∀ i, 32 ≤ i + n → x.getLsbD i = false) → crcN n (x <<< n) = x
 | 0, x, _ => by simp [crcN]
 | n + 1, x, h => by
  rw [crcN, BitVec.shiftLeft_add, crc1_shl, crcN_shl n]
  ·intro i hi; exact h i (by omega)
  ·rw [BitVec.getLsbD_shiftLeft]
   by_cases hn : 31 < n
   ·simp [hn]
   ·simp [show ¬ 31 < n from hn]
    exact h _ (by omega)
/-- A byte by a table of 256 words. -/
theorem crcB_table (s : BitVec 32) (b : BitVec 8) : (s >>> 8) ^^^ crcN 8 ((s.setWidth 8 ^^^ b).setWidth 32) = crcB s b := by
 have e : s ^^^ b.setWidth 32 = ((s >>> 8) <<< 8) ^^^ ((s.setWidth 8 ^^^ b).setWidth 32) := by
  apply BitVec.eq_of_getLsbD_eq
  intro i hi
  simp only [BitVec.getLsbD_xor, BitVec.getLsbD_setWidth, BitVec.getLsbD_shiftLeft, BitVec.getLsbD_ushiftRight]
  by_cases h8 : i < 8
  ·simp [h8, hi]
  ·simp only [h8, hi, decide_true, decide_false, Bool.true_and, Bool.not_false, Bool.false_and, Bool.and_false, Bool.xor_false, show 8 + (i - 8) = i by omega]
   have : b.getLsbD i = false := BitVec.getLsbD_of_ge _ _ (by omega)
   simp [this]
 unfold crcB
 rw [e, crcN_xor, crcN_shl 8 _ ?_]
 intro i hi
 rw [BitVec.getLsbD_ushiftRight]
 exact BitVec.getLsbD_of_ge _ _ (by omega)
/-! bit by bit -/
def bw (b : Bool) : BitVec 32 := if b then 1#32 else 0#32
def crcBits (s : BitVec 32) (l : List Bool) : BitVec 32 := l.foldl (fun s b => crc1 (s ^^^ bw b)) s
/-- The first 32 bits of a list. -/
def val : List Bool → BitVec 32
 | [] => 0#32
 | b :: l => bw b ^^^ (val l <<< 1)
theorem val_bit : ∀ (l : List Bool) (i : Nat), i < 32 → (val l).getLsbD i = l.getD i false
 | [], i, _ => by simp [val]
 | b :: l, 0, _ => by cases b <;> simp [val, bw]
 | b :: l, i + 1, h => by
  have ih := val_bit l i (by omega)
  simp only [val, BitVec.getLsbD_xor, BitVec.getLsbD_shiftLeft]
  have : (bw b).getLsbD (i + 1) = false := by cases b <;> simp [bw]
  simp [this, ih]
  intro h2; omega
theorem crcBits_val : ∀ (l : List Bool) (s : BitVec 32), (∀ i, 32 ≤ i → l.getD i false = false) → crcBits s l = crcN l.length (s ^^^ val l)
 | [], s, _ => by simp [crcBits, val, crcN]
 | b :: l, s, h => by
  have h2 : ∀ i, 32 ≤ i → l.getD i false = false := fun i hi => by simpa using h (i + 1) (by omega)
  have ih := crcBits_val l (crc1 (s ^^^ bw b)) h2
  have e : crcBits s (b :: l) = crcBits (crc1 (s ^^^ bw b)) l := rfl
  rw [e, ih, List.length_cons, crcN]
  congr 1
  rw [val, ← BitVec.xor_assoc, crc1_xor (s ^^^ bw b), crc1_shl]
  rw [val_bit l 31 (by omega)]
  simpa using h 32 (by omega)
def bitsB (b : BitVec 8) : List Bool := (List.range 8).map fun i => b.getLsbD i
theorem crcB_bits (s : BitVec 32) (b : BitVec 8) : crcB s b = crcBits s (bitsB b) := by
 rw [crcBits_val]
 ·unfold crcB
  have : (bitsB b).length = 8 := by simp [bitsB]
  rw [this]
  congr 2
  apply BitVec.eq_of_getLsbD_eq
  intro i hi
  rw [val_bit _ _ hi]
  simp [bitsB, List.getD]
  by_cases h8 : i < 8
  ·simp [h8]; intro; omega
  ·simp [List.getElem?_eq_none, h8]
   intro
   exact BitVec.getLsbD_of_ge _ _ (by omega)
 ·intro i hi
  rw [List.getD_eq_getElem?_getD, List.getElem?_eq_none (by simp [bitsB]; omega)]; rfl
theorem crcU_bits : ∀ (bs : List (BitVec 8)) (s : BitVec 32), crcU s bs = crcBits s (bs.flatMap bitsB)
 | [], _ => rfl
 | b :: bs, s => by
  have : crcU s (b :: bs) = crcU (crcB s b) bs := rfl
  rw [this, crcU_bits bs, crcB_bits]
  simp [crcBits, List.foldl_append]
theorem crcBits_zeros (n : Nat) (l : List Bool) : crcBits 0#32 (List.replicate n false ++ l) = crcBits 0#32 l := by
 induction n with
 | zero => rfl
 | succ n ih =>
  rw [List.replicate_succ, List.cons_append]
  have : crcBits 0#32 (false :: (List.replicate n false ++ l)) = crcBits (crc1 (0#32 ^^^ bw false)) (List.replicate n false ++ l) := rfl
  rw [this]
  simpa [bw, crc1_zero] using ih
/-- THE BURST: where the bits outside 32 consecutive ones are 0, and the state stays 0, all bits are 0. -/
theorem burst (D : List (BitVec 8)) (a : Nat) (h : ∀ i, i < 8 * D.length → (D.flatMap bitsB).getD i false = true → a ≤ i ∧ i < a + 32) (hz : crcU 0#32 D = 0#32) : ∀ b ∈ D, b = 0#8 := by
 have hlen : ∀ D : List (BitVec 8), (D.flatMap bitsB).length = 8 * D.length := by
  intro D
  induction D with
  | nil => rfl
  | cons b D ih => simp only [List.flatMap_cons, List.length_append, ih, List.length_cons]; simp [bitsB]; omega
 have key : ∀ i, (D.flatMap bitsB).getD i false = false := by
  rw [crcU_bits] at hz
  have hlD := hlen D
  generalize D.flatMap bitsB = l at h hz hlD ⊢
  have hout : ∀ i, ¬ (a ≤ i ∧ i < a + 32) → l.getD i false = false := fun i hi => by
   cases hb : l.getD i false with
   | false => rfl
   | true =>
    exfalso
    have hil : i < l.length := by
     rcases Nat.lt_or_ge i l.length with h1 | h1
     ·exact h1
     ·rw [List.getD_eq_getElem?_getD, List.getElem?_eq_none h1] at hb; cases hb
    exact hi (h i (by omega) hb)
  by_cases ha : a ≤ l.length
  ·have e : l = List.replicate a false ++ l.drop a := by
    apply List.ext_getElem?
    intro i
    by_cases hi : i < a
    ·rw [List.getElem?_append_left (by simpa using hi), List.getElem?_replicate, if_pos hi]
     have := hout i (by omega)
     rw [List.getD_eq_getElem?_getD, List.getElem?_eq_getElem (by omega)] at this
     rw [List.getElem?_eq_getElem (by omega)]
     simpa using this
    ·rw [List.getElem?_append_right (by simpa using Nat.le_of_not_lt hi), List.length_replicate, List.getElem?_drop]
     congr 1; omega
   rw [e, crcBits_zeros, crcBits_val _ _ (fun i hi => by
    have := hout (a + i) (by omega)
    rw [List.getD_eq_getElem?_getD] at this ⊢
    rw [List.getElem?_drop]; exact this)] at hz
   have hv := crcN_eq_zero _ hz
   rw [BitVec.zero_xor] at hv
   intro i
   by_cases hi : a ≤ i ∧ i < a + 32
   ·have := val_bit (l.drop a) (i - a) (by omega)
    rw [hv, BitVec.getLsbD_zero, List.getD_eq_getElem?_getD, List.getElem?_drop, show a + (i - a) = i by omega, ← List.getD_eq_getElem?_getD] at this
    exact this.symm
   ·exact hout i hi
  ·intro i
   by_cases hi : i < l.length
   ·exact hout i (by omega)
   ·rw [List.getD_eq_getElem?_getD, List.getElem?_eq_none (by omega)]; rfl
 clear h hz
 induction D with
 | nil => simp
 | cons b D ih =>
  have h0 : b = 0#8 := by
   apply BitVec.eq_of_getLsbD_eq
   intro i hi
   have := key i
   rw [List.flatMap_cons, List.getD_eq_getElem?_getD, List.getElem?_append_left (by simpa [bitsB] using hi)] at this
   simp only [bitsB, List.getElem?_map, List.getElem?_range hi, Option.map_some, Option.getD_some] at this
   simpa using this
  intro x hx
  rcases List.mem_cons.1 hx with rfl | hx
  ·exact h0
  ·refine ih (fun i => ?_) x hx
   have := key (8 + i)
   rw [List.flatMap_cons, List.getD_eq_getElem?_getD, List.getElem?_append_right (by simp [bitsB])] at this
   simpa [bitsB, List.getD_eq_getElem?_getD] using this
/-- The two ways in which the code writes a shift. -/
theorem crc1_mul (s : BitVec 32) : (s >>> 1) ^^^ ((s &&& 1#32) * crcPoly) = crc1 s := by
 unfold crc1
 congr 1
 cases h : s.getLsbD 0 with
 | true =>
  have : s &&& 1#32 = 1#32 := by
   apply BitVec.eq_of_getLsbD_eq
   intro i hi
   rw [BitVec.getLsbD_and]
   rcases Nat.eq_zero_or_pos i with rfl | hp
   ·simp [h]
   ·simp [BitVec.getLsbD_one, show ¬ i = 0 by omega]
  rw [this]; simp
 | false =>
  have : s &&& 1#32 = 0#32 := by
   apply BitVec.eq_of_getLsbD_eq
   intro i hi
   rw [BitVec.getLsbD_and]
   rcases Nat.eq_zero_or_pos i with rfl | hp
   ·rw [h]; simp
   ·simp [BitVec.getLsbD_one, show ¬ i = 0 by omega]
  rw [this]; simp
end Pd
end Go.Proofs.Ytdngfcmakjlamaa
/- Numbers of bytes, the least significant one first, in plain Lean. No condition. -/
namespace Go.Proofs.Ytdngfcmakjlamaa
namespace Pd
theorem numN_length : ∀ (n v : Nat), (numN n v).length = n
 | 0, _ => rfl
 | n + 1, v => by simp [numN, numN_length n]
theorem numL_length (v : BitVec 32) (n : Nat) : (numL v n).length = n := numN_length _ _
theorem numN_snoc : ∀ (n v : Nat), numN (n + 1) v = numN n v ++ [BitVec.ofNat 8 (v / 256 ^ n)]
 | 0, v => by simp [numN]
 | n + 1, v => by
  rw [numN, numN_snoc n, numN, List.cons_append]
  congr 3
  rw [Nat.div_div_eq_div_mul, Nat.pow_succ, Nat.mul_comm]
theorem byte_shr (v : BitVec 32) (i : Nat) : (v >>> (8 * i)).setWidth 8 = BitVec.ofNat 8 (v.toNat / 256 ^ i) := by
 apply BitVec.eq_of_toNat_eq
 rw [BitVec.toNat_setWidth, BitVec.toNat_ushiftRight, BitVec.toNat_ofNat, Nat.shiftRight_eq_div_pow, Nat.pow_mul]
theorem numL_snoc (v : BitVec 32) (i : Nat) : numL v (i + 1) = numL v i ++ [(v >>> (8 * i)).setWidth 8] := by
 unfold numL; rw [numN_snoc, byte_shr]
theorem bigL_append : ∀ (a b : List (BitVec 8)), bigL (a ++ b) = bigL a + 256 ^ a.length * bigL b
 | [], b => by simp [bigL]
 | x :: a, b => by
  rw [List.cons_append, bigL, bigL_append a b, bigL, List.length_cons, Nat.pow_succ, Nat.mul_add, Nat.mul_comm (256 ^ a.length) 256, Nat.mul_assoc]
  omega
theorem bigL_lt : ∀ (a : List (BitVec 8)), bigL a < 256 ^ a.length
 | [] => by simp [bigL]
 | x :: a => by
  have := bigL_lt a
  have := x.isLt
  rw [bigL, List.length_cons, Nat.pow_succ]
  omega
theorem bigL_numN : ∀ (n v : Nat), bigL (numN n v) = v % 256 ^ n
 | 0, v => by simp [numN, bigL, Nat.mod_one]
 | n + 1, v => by
  have e : (256 : Nat) ^ (n + 1) = 256 * 256 ^ n := by rw [Nat.pow_succ, Nat.mul_comm]
  rw [numN, bigL, bigL_numN n, BitVec.toNat_ofNat, e, Nat.mod_mul]
theorem numN_bigL : ∀ (a : List (BitVec 8)), numN a.length (bigL a) = a
 | [] => rfl
 | x :: a => by
  rw [List.length_cons, numN, bigL]
  have h1 : (x.toNat + 256 * bigL a) / 256 = bigL a := by have := x.isLt; omega
  have h2 : BitVec.ofNat 8 (x.toNat + 256 * bigL a) = x := by
   apply BitVec.eq_of_toNat_eq
   rw [BitVec.toNat_ofNat]
   have := x.isLt; omega
  rw [h1, h2, numN_bigL a]
theorem numL_mod (n v : Nat) (h : v < 256 ^ n) (hn : n ≤ 4) : numL (BitVec.ofNat 32 v) n = numN n v := by
 unfold numL
 have : 256 ^ n ≤ 2 ^ 32 := by
  have : 256 ^ n ≤ 256 ^ 4 := Nat.pow_le_pow_right (by omega) hn
  simpa using this
 rw [BitVec.toNat_ofNat, Nat.mod_eq_of_lt (by omega)]
theorem bigL_numL (v : BitVec 32) : bigL (numL v 4) = v.toNat := by
 unfold numL
 rw [bigL_numN, Nat.mod_eq_of_lt]
 have := v.isLt
 simpa using this
theorem w32_numL (v : BitVec 32) : w32 (numL v 4) = v := by
 unfold w32; rw [bigL_numL]; simp
theorem numL_w32 (a : List (BitVec 8)) (h : a.length = 4) : numL (w32 a) 4 = a := by
 unfold w32
 rw [numL_mod _ _ (by rw [← h]; exact bigL_lt a) (by omega), ← h, numN_bigL]
theorem numL_eq_iff (a : List (BitVec 8)) (h : a.length = 4) (v : BitVec 32) : (w32 a = v) ↔ a = numL v 4 := by
 constructor
 ·intro e; rw [← e, numL_w32 a h]
 ·intro e; rw [e, w32_numL]
theorem w16_numL (v : BitVec 16) : w16 (numL (v.setWidth 32) 2) = v := by
 unfold w16 numL
 rw [bigL_numN]
 apply BitVec.eq_of_toNat_eq
 have := v.isLt
 simp
 omega
/-- A byte more, as the code adds it. -/
theorem w32_snoc (a : List (BitVec 8)) (b : BitVec 8) (h : a.length < 4) : w32 (a ++ [b]) = w32 a ||| (b.setWidth 32 <<< (8 * a.length)) := by
 have hl := bigL_lt a
 have e : (256 : Nat) ^ a.length = 2 ^ (8 * a.length) := by rw [Nat.pow_mul]
 have h24 : (2 : Nat) ^ (8 * a.length) ≤ 2 ^ 24 := Nat.pow_le_pow_right (by omega) (by omega)
 apply BitVec.eq_of_toNat_eq
 unfold w32
 have hb := b.isLt
 have hbig : bigL (a ++ [b]) = bigL a + 2 ^ (8 * a.length) * b.toNat := by rw [bigL_append, e]; simp [bigL]
 rw [e] at hl
 have hp : 2 ^ (8 * a.length) * b.toNat + 2 ^ (8 * a.length) ≤ 2 ^ (8 * a.length) * 256 := by
  have : 2 ^ (8 * a.length) * (b.toNat + 1) ≤ 2 ^ (8 * a.length) * 256 := Nat.mul_le_mul_left _ (by omega)
  rwa [Nat.mul_add, Nat.mul_one] at this
 have h32 : 2 ^ (8 * a.length) * 256 ≤ 2 ^ 32 := by
  have : (2 : Nat) ^ (8 * a.length) * 256 ≤ 2 ^ 24 * 256 := Nat.mul_le_mul_right _ h24
  simpa using this
 have hlt : 2 ^ (8 * a.length) * b.toNat + bigL a < 2 ^ 32 := by omega
 rw [hbig, BitVec.toNat_ofNat, BitVec.toNat_or, BitVec.toNat_ofNat, BitVec.toNat_shiftLeft, BitVec.toNat_setWidth, Nat.shiftLeft_eq]
 rw [Nat.mod_eq_of_lt (show b.toNat < 2 ^ 32 by omega), Nat.mod_eq_of_lt (show bigL a < 2 ^ 32 by omega), Nat.mul_comm b.toNat, Nat.mod_eq_of_lt (show 2 ^ (8 * a.length) * b.toNat < 2 ^ 32 by omega), Nat.mod_eq_of_lt (by omega), Nat.or_comm, ← Nat.two_pow_add_eq_or_of_lt hl, Nat.add_comm]
end Pd
end Go.Proofs.Ytdngfcmakjlamaa
/- What the walks of layer 35 share. No condition. -/
namespace Go.Proofs.Ytdngfcmakjlamaa
open Go Go.RowKit
open Li (v8 Blk Rd Fr)
namespace Se
variable {w0 w w' : World} {X : List Nat} {L L' : List At}
/-- What a call has made on its own is laid beside what was there. -/
theorem St.join (h : St w0 X L w) (k : St w [] L' w') (hn : ∀ a ∈ L', a.noRd) : St w0 X (L' ++ L) w' := by
 refine St.turn (P := []) (P' := L') h ?_ k.hold hn k.nd fun b hb => ?_
 ·have := k.fr
  simpa [ownedL] using this
 ·rcases Nat.lt_or_ge b w.heap.size with hlt | hge
  ·exact absurd (k.may b hb hlt) (by simp)
  ·exact .inr hge
theorem St.later {w1 : World} (h : Below w.heap.size w w1) (k : St w1 [] L w') (hn : ∀ b ∈ ownedL L, w1.heap.size ≤ b) : St w [] L w' := by
 refine ⟨k.hold, k.nd, k.sep, fun g hg hlt => ?_, ?_⟩
 ·have := hn g hg; have := h.size; omega
 ·exact (Fr.ext h).trans k.fr fun b _ hx => by simp at hx
end Se
namespace Pd
open Bv (n8 n16 n32 n64)
theorem u8i : (Try.prog.info? 5).map (fun i => (i.zero, i.size)) = some (some (.int .u8 0), 1) := by kernel_rfl
theorem u8i3 : (Try.prog.info? 5).map (fun i => (i.zero, i.size, i.bytes)) = some (some (.int .u8 0), 1, 1) := by kernel_rfl
theorem bysi : (Try.prog.info? 24).map (fun i => (i.zero, i.size)) = some (some (.slice none 0 0), 1) := by kernel_rfl
/-- A part of a slice of bytes, as its value lies in memory. -/
structure Pt where
 A : Option Addr
 c : Nat
 bs : List (BitVec 8)
def Pt.v (p : Pt) : Value := .slice p.A p.bs.length p.c
end Pd
end Go.Proofs.Ytdngfcmakjlamaa


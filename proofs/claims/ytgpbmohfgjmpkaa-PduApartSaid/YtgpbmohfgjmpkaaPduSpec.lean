/- Layer 35 in plain Lean: checksums, numbers, the fields of a PDU, its encoding and decoding. No condition. -/
import Derived.Test.YtgpbmohfgjmpkaaBv
set_option linter.unusedSimpArgs false
set_option linter.unusedVariables false
namespace Go.Proofs.Ytgpbmohfgjmpkaa
namespace Pd
/-! ### CRC-32C -/
def crcPoly : BitVec 32 := 0x82F63B78#32
/-- One shift. -/
def crc1 (s : BitVec 32) : BitVec 32 := (s >>> 1) ^^^ (if s.getLsbD 0 then crcPoly else 0#32)
def crcN : Nat → BitVec 32 → BitVec 32
  | 0, s => s
  | n + 1, s => crcN n (crc1 s)
/-- One byte. -/
def crcB (s : BitVec 32) (b : BitVec 8) : BitVec 32 := crcN 8 (s ^^^ b.setWidth 32)
def crcU (s : BitVec 32) (bs : List (BitVec 8)) : BitVec 32 := bs.foldl crcB s
def crc (bs : List (BitVec 8)) : BitVec 32 := ~~~ (crcU 0xFFFFFFFF#32 bs)
/-! ### numbers -/
def bigL : List (BitVec 8) → Nat
  | [] => 0
  | b :: bs => b.toNat + 256 * bigL bs
def numN : Nat → Nat → List (BitVec 8)
  | 0, _ => []
  | n + 1, v => BitVec.ofNat 8 v :: numN n (v / 256)
def numL (v : BitVec 32) (n : Nat) : List (BitVec 8) := numN n v.toNat
abbrev zs (n : Nat) : List (BitVec 8) := List.replicate n 0#8
/-! ### PDUs -/
structure Fm where
  hd : Bool
  dd : Bool
  al : Int
structure Hd where
  k : BitVec 8 := 0#8
  la : Bool := false
  su : Bool := false
  id : BitVec 16 := 0#16
  tg : BitVec 16 := 0#16
  of : BitVec 32 := 0#32
  ln : BitVec 32 := 0#32
  al : BitVec 8 := 0#8
  dg : BitVec 8 := 0#8
  mx : BitVec 32 := 0#32
  st : BitVec 16 := 0#16
  nf : BitVec 32 := 0#32
deriving DecidableEq
structure PDU where
  h : Hd := {}
  en : List (BitVec 8) := []
  da : List (BitVec 8) := []
deriving DecidableEq
def hdr : Nat → Nat
  | 0 | 1 => 128
  | 4 => 72
  | 2 | 3 | 5 | 6 | 7 | 9 => 24
  | _ => 0
def most : Nat → Nat
  | 2 | 3 => 128
  | 4 | 6 | 7 => 1048576
  | _ => 0
def least : Nat → Nat
  | 6 | 7 => 1
  | _ => 0
def entl : Nat → Nat
  | 4 => 64
  | 5 => 16
  | _ => 0
def framed (f : Fm) : Bool := decide (0 ≤ f.al ∧ f.al ≤ 31)
/-- The fields that a kind does not use are zero. -/
def only (p : PDU) : Bool :=
  let k := p.h.k.toNat
  let mv := k = 6 ∨ k = 7
  decide (¬ (p.h.la = true ∧ ¬ mv ∨ p.h.su = true ∧ (k ≠ 7 ∨ p.h.la = false) ∨ p.en ≠ [] ∧ k ≠ 4 ∧ k ≠ 5)) &&
  decide (¬ (p.h.id ≠ 0#16 ∧ ¬ mv ∧ k ≠ 9 ∨ p.h.tg ≠ 0#16 ∧ k ≠ 6 ∧ k ≠ 9 ∨ p.h.of ≠ 0#32 ∧ ¬ mv ∧ k ≠ 9 ∨ p.h.ln ≠ 0#32 ∧ k ≠ 9)) &&
  decide ((p.h.al = 0#8 ∧ p.h.dg = 0#8 ∧ p.h.mx = 0#32 ∨ k < 2) ∧ (p.h.st = 0#16 ∧ p.h.nf = 0#32 ∨ k = 2 ∨ k = 3))
/-- What a kind asks of its own fields. -/
def own (p : PDU) : Bool :=
  match p.h.k.toNat with
  | 0 => decide (p.h.al.toNat ≤ 31 ∧ p.h.dg.toNat ≤ 3)
  | 1 => decide (p.h.al.toNat ≤ 31 ∧ p.h.dg.toNat ≤ 3 ∧ 4096 ≤ p.h.mx.toNat ∧ p.h.mx.toNat % 4 = 0)
  | 4 => decide (p.en.length = 64)
  | 5 => decide (p.en.length = 16)
  | 6 | 7 => decide (0 < p.da.length)
  | 9 => decide (0 < p.h.ln.toNat)
  | _ => true
def valid (p : PDU) : Bool := decide (hdr p.h.k.toNat ≠ 0) && decide (p.da.length ≤ most p.h.k.toNat) && only p && own p
def hsum (k : Nat) (f : Fm) : Nat := if 3 < k ∧ f.hd = true then 4 else 0
def dsum (k : Nat) (f : Fm) (data : Bool) : Nat := if 3 < k ∧ f.dd = true ∧ data = true then 4 else 0
def unit (k : Nat) (f : Fm) : Nat := if 3 < k then 4 * (f.al.toNat + 1) else 4
def start (k : Nat) (f : Fm) : Nat := (hdr k + hsum k f + unit k f - 1) / unit k f * unit k f
def special (p : PDU) : List (BitVec 8) :=
  match p.h.k.toNat with
  | 0 | 1 => [0#8, 0#8, p.h.al, p.h.dg] ++ numL p.h.mx 4 ++ zs 112
  | 2 | 3 => numL (p.h.st.setWidth 32) 2 ++ numL p.h.nf 4 ++ zs 10
  | 4 | 5 => p.en
  | 9 => numL (p.h.id.setWidth 32) 2 ++ numL (p.h.tg.setWidth 32) 2 ++ numL p.h.of 4 ++ numL p.h.ln 4 ++ zs 4
  | _ => numL (p.h.id.setWidth 32) 2 ++ numL (p.h.tg.setWidth 32) 2 ++ numL p.h.of 4 ++ numL (BitVec.ofNat 32 p.da.length) 4 ++ zs 4
def flagsN (p : PDU) (h d : Nat) : Nat := (if 0 < h then 1 else 0) + (if 0 < d then 2 else 0) + (if p.h.la then 4 else 0) + (if p.h.su then 8 else 0)
def at' (p : PDU) (f : Fm) : Nat := if 0 < p.da.length then start p.h.k.toNat f else 0
def hs (p : PDU) (f : Fm) : Nat := hsum p.h.k.toNat f
def ds (p : PDU) (f : Fm) : Nat := dsum p.h.k.toNat f (decide (0 < p.da.length))
def size (p : PDU) (f : Fm) : Nat := if 0 < p.da.length then start p.h.k.toNat f + p.da.length + ds p f else hdr p.h.k.toNat + hs p f
/-- The header without digest. -/
def head (p : PDU) (f : Fm) : List (BitVec 8) :=
  [p.h.k, BitVec.ofNat 8 (flagsN p (hs p f) (ds p f)), BitVec.ofNat 8 (hdr p.h.k.toNat), BitVec.ofNat 8 (at' p f)] ++ numL (BitVec.ofNat 32 (size p f)) 4 ++ special p
def head2 (p : PDU) (f : Fm) : List (BitVec 8) := head p f ++ (if 0 < hs p f then numL (crc (head p f)) 4 else [])
def enc (p : PDU) (f : Fm) : List (BitVec 8) :=
  head2 p f ++ zs (at' p f - (head2 p f).length) ++ p.da ++ (if 0 < ds p f then numL (crc p.da) 4 else [])
/-- The bytes from i on, n of them. -/
abbrev sub (b : List (BitVec 8)) (i j : Nat) : List (BitVec 8) := (b.take j).drop i
def bit (x : Nat) (i : Nat) : Bool := x / 2 ^ i % 2 == 1
/-- The total length, or an error. -/
def meas (b : List (BitVec 8)) (f : Fm) : Nat × Nat :=
  if framed f = false then (0, 2) else
  if b.length < 8 then (0, 4) else
  let k := (b.getD 0 0#8).toNat
  let fl := (b.getD 1 0#8).toNat
  let hl := (b.getD 2 0#8).toNat
  let at0 := (b.getD 3 0#8).toNat
  let total := bigL (sub b 4 8)
  if hdr k = 0 then (0, 360) else
  if 15 < fl ∨ bit fl 2 = true ∧ k ≠ 6 ∧ k ≠ 7 ∨ bit fl 3 = true ∧ (k ≠ 7 ∨ bit fl 2 = false) ∨ bit fl 0 ≠ decide (0 < hsum k f) ∨ bit fl 1 = true ∧ (k < 4 ∨ f.dd = false) then (0, 361) else
  if hl ≠ hdr k ∨ at0 ≠ 0 ∧ at0 ≠ start k f ∨ at0 ≠ 0 ∧ most k = 0 ∨ at0 = 0 ∧ (k = 6 ∨ k = 7) then (0, 362) else
  let d := dsum k f (decide (0 < at0))
  if bit fl 1 ≠ decide (0 < d) ∨ at0 = 0 ∧ total ≠ hdr k + hsum k f ∨ 0 < at0 ∧ (total < at0 + 1 + d ∨ at0 + most k + d < total) then (0, 362) else
  (total, 0)
def zeros (b : List (BitVec 8)) : Bool := b.all (· == 0#8)
def w16 (b : List (BitVec 8)) : BitVec 16 := BitVec.ofNat 16 (bigL b)
def w32 (b : List (BitVec 8)) : BitVec 32 := BitVec.ofNat 32 (bigL b)
/-- The PDU of a header's bytes behind the first eight, and data; and whether the bytes that must be zero are. -/
def parse (k fl : Nat) (s data : List (BitVec 8)) : PDU × Bool :=
  let h : Hd := { k := BitVec.ofNat 8 k, la := bit fl 2, su := bit fl 3 }
  match k with
  | 0 | 1 => ({ h := { h with al := s.getD 2 0#8, dg := s.getD 3 0#8, mx := w32 (sub s 4 8) }, da := data }, zeros (s.take 2) && zeros (s.drop 8))
  | 2 | 3 => ({ h := { h with st := w16 (s.take 2), nf := w32 (sub s 2 6) }, da := data }, zeros (s.drop 6))
  | 4 | 5 => ({ h := h, en := s, da := data }, true)
  | 9 => ({ h := { h with id := w16 (s.take 2), tg := w16 (sub s 2 4), of := w32 (sub s 4 8), ln := w32 (sub s 8 12) }, da := data }, zeros (s.drop 12))
  | _ => ({ h := { h with id := w16 (s.take 2), tg := w16 (sub s 2 4), of := w32 (sub s 4 8) }, da := data }, zeros (s.drop 12) && decide (bigL (sub s 8 12) = data.length))
def dec (b : List (BitVec 8)) (f : Fm) : PDU × Nat :=
  let m := meas b f
  if m.2 ≠ 0 then ({}, m.2) else
  if b.length < m.1 then ({}, 4) else
  if m.1 < b.length then ({}, 366) else
  let k := (b.getD 0 0#8).toNat
  let at0 := (b.getD 3 0#8).toNat
  let n := hdr k
  let h := hsum k f
  let d := dsum k f (decide (0 < at0))
  if 0 < h ∧ sub b n (n + 4) ≠ numL (crc (b.take n)) 4 then ({}, 364) else
  let data := if 0 < at0 then sub b at0 (m.1 - d) else []
  let pad := if 0 < at0 then sub b (n + h) at0 else []
  let r := parse k (b.getD 1 0#8).toNat (sub b 8 n) data
  if r.2 = false ∨ zeros pad = false ∨ valid r.1 = false then ({}, 363) else
  if 0 < d ∧ b.drop (m.1 - 4) ≠ numL (crc data) 4 then ({}, 365) else
  (r.1, 0)
end Pd
end Go.Proofs.Ytgpbmohfgjmpkaa

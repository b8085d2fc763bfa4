/- Layer 38 in plain Lean: numbers as bytes, the messages, a verifier and a prover as values. No condition. -/
import Derived.Test.YtakdoijemopejaaGreatShaHm
set_option linter.unusedSimpArgs false
set_option linter.unusedVariables false
namespace Go.Proofs.YtakdoijemopejaaGreat
namespace Au
abbrev Bs := List (BitVec 8)
/-- The k lowest bytes of a number, the lowest first. -/
def putL (v : BitVec 64) (k : Nat) : Bs := (List.range k).map fun i => (v >>> (8 * i)).setWidth 8
def getN (bs : Bs) : Nat → BitVec 64
 | 0 => 0#64
 | i + 1 => getN bs i ||| ((bs.getD i 0#8).setWidth 64 <<< (8 * i))
def getL (bs : Bs) : BitVec 64 := getN bs bs.length
theorem putL_length (v : BitVec 64) (k : Nat) : (putL v k).length = k := by simp [putL]
theorem putL_snoc (v : BitVec 64) (i : Nat) : putL v (i + 1) = putL v i ++ [(v >>> (8 * i)).setWidth 8] := by simp [putL, List.range_succ]
theorem getN_take (bs : Bs) (k i : Nat) (h : i ≤ k) : getN (bs.take k) i = getN bs i := by
 induction i with
 | zero => rfl
 | succ i ih =>
  rw [getN, getN, ih (by omega)]
  have : (bs.take k).getD i 0#8 = bs.getD i 0#8 := by simp [List.getD, List.getElem?_take, show i < k by omega]
  rw [this]
/-- Fields: a value and a number of bytes each. -/
def fb (l : List (BitVec 64 × Nat)) : Bs := l.flatMap fun p => putL p.1 p.2
theorem fb_snoc (l : List (BitVec 64 × Nat)) (i : Nat) (h : i < l.length) : fb (l.take (i + 1)) = fb (l.take i) ++ putL l[i].1 l[i].2 := by
 unfold fb; rw [List.take_succ_eq_append_getElem h, List.flatMap_append]; simp
/-- The numbers of the fields of given sizes at the front of bytes. -/
def flds (bs : Bs) : List Nat → List (BitVec 64)
 | [] => []
 | k :: ks => getL (bs.take k) :: flds (bs.drop k) ks
structure Hd where
 k : BitVec 8 := 0#8
 f : BitVec 8 := 0#8
 q : BitVec 16 := 0#16
 s : BitVec 32 := 0#32
 deriving DecidableEq
def z32 : Bs := List.replicate 32 0#8
def headL (h : Hd) : Bs := putL (h.k.setWidth 64) 1 ++ putL (h.f.setWidth 64) 1 ++ putL (h.q.setWidth 64) 2 ++ putL (h.s.setWidth 64) 4
/-- A message: its head and its parts. -/
def msg (h : Hd) (ps : List Bs) : Bs := headL h ++ ps.flatten
def hdOf (b : Bs) : Hd := { k := (getL (b.take 1)).setWidth 8, f := (getL ((b.drop 1).take 1)).setWidth 8, q := (getL ((b.drop 2).take 2)).setWidth 16, s := (getL ((b.drop 4).take 4)).setWidth 32 }
/-- Part i of a message. -/
def prt (b : Bs) (i : Nat) : Bs := (b.drop (8 + 32 * i)).take 32
/-- The error of bytes that should be a message of a kind with flags up to a number and n parts. -/
def parE (b : Bs) (kind fl : BitVec 8) (n : Nat) : Nat :=
 if b.length < 8 + 32 * n then 4 else
 if 8 + 32 * n < b.length then 5 else
 if (hdOf b).k ≠ kind ∨ fl.toNat < (hdOf b).f.toNat ∨ (0 < fl.toNat ∧ (hdOf b).f = 0#8 ∧ prt b (n - 1) ≠ z32) then 6 else 0
/-- A party: a secret and two names, as bytes. -/
structure Py where
 sec : Bs
 host : Bs
 sub : Bs
def plainB (b : BitVec 8) : Bool := decide (32 ≤ b.toNat) && decide (b.toNat ≤ 126)
def name (s : Bs) : Bool := decide (1 ≤ s.length) && decide (s.length ≤ 223) && s.all plainB
def valid (p : Py) : Bool := name p.host && name p.sub && decide (1 ≤ p.sec.length) && decide (p.sec.length ≤ 64)
/-- What a response is the HMAC of. -/
def respM (p : Py) (nonce : Bs) (h : Hd) (role : BitVec 8) : Bs :=
 nonce ++ (putL (h.s.setWidth 64) 4 ++ putL (h.q.setWidth 64) 2 ++ putL (role.setWidth 64) 1) ++ (putL (BitVec.ofNat 64 p.host.length) 2 ++ p.host) ++ (putL (BitVec.ofNat 64 p.sub.length) 2 ++ p.sub)
def resp (p : Py) (nonce : Bs) (h : Hd) (role : BitVec 8) : Bs := Sha.hmacL p.sec (respM p nonce h role)
/-- A verifier, or a prover. -/
structure Vr where
 p : Py
 h : Hd := {}
 n : Bs := z32
 o : Bool := false
 d : Bool := false
def chalE (v : Vr) (nonce : Bs) (seq : BitVec 32) (q : BitVec 16) : Vr × Bs × Nat :=
 if seq.toNat ≤ v.h.s.toNat then (v, [], 2) else
 ({ v with h := { k := 1#8, q := q, s := seq }, n := nonce, o := true, d := false }, msg { k := 1#8, q := q, s := seq } [nonce], 0)
def checkE (v : Vr) (b : Bs) : Vr × Bs × Nat :=
 if parE b 2#8 1#8 2 ≠ 0 then (v, [], parE b 2#8 1#8 2) else
 if v.o = false then (v, [], 8) else
 if (hdOf b).q ≠ v.h.q ∨ (hdOf b).s ≠ v.h.s then ({ v with o := false }, [], 3) else
 if prt b 0 ≠ resp v.p v.n (hdOf b) 72#8 then ({ v with o := false }, [], 10) else
 ({ v with o := false, d := true }, msg { hdOf b with k := 3#8 } [if (hdOf b).f = 1#8 then resp v.p (prt b 1) (hdOf b) 67#8 else z32], 0)
def ansE (p : Vr) (b : Bs) (both : Bool) (nonce : Bs) : Vr × Bs × Nat :=
 if parE b 1#8 0#8 1 ≠ 0 then (p, [], parE b 1#8 0#8 1) else
 ({ p with h := { hdOf b with k := 2#8, f := if both then 1#8 else (hdOf b).f }, n := if both then nonce else z32, o := true, d := false },
  msg { hdOf b with k := 2#8, f := if both then 1#8 else (hdOf b).f } [resp p.p (prt b 0) { hdOf b with k := 2#8, f := if both then 1#8 else (hdOf b).f } 72#8, if both then nonce else z32], 0)
def finE (p : Vr) (b : Bs) : Vr × Nat :=
 if parE b 3#8 1#8 1 ≠ 0 then (p, parE b 3#8 1#8 1) else
 if p.o = false then (p, 8) else
 if { hdOf b with k := 2#8 } ≠ p.h then ({ p with o := false }, 3) else
 if (hdOf b).f = 1#8 ∧ prt b 0 ≠ resp p.p p.n { hdOf b with k := 2#8 } 67#8 then ({ p with o := false }, 10) else
 ({ p with o := false, d := true }, 0)
end Au
end Go.Proofs.YtakdoijemopejaaGreat

/- Layer 28 in plain Lean: zones and their calls. No condition. -/
import Derived.Test.YthpgkkfahiglnaaBaseB
set_option linter.unusedSimpArgs false
set_option linter.unusedVariables false
namespace Go.Proofs.Ythpgkkfahiglnaa
namespace Zo
structure Cf where
 n : Nat
 sz : Nat
 cap : Nat
 mo : Nat
 ma : Nat
structure Zn where
 st : Nat
 p : Nat := 0
 r : Nat := 0
structure Zs where
 c : Cf
 l : List Zn
 w : Nat := 0
def dz : Zn := { st := 1 }
def okC (n sz cap mo ma : Int) : Bool := decide (1 ≤ n ∧ n ≤ 4096 ∧ 1 ≤ sz ∧ sz ≤ 65536 ∧ 1 ≤ cap ∧ cap ≤ sz ∧ 0 ≤ mo ∧ mo ≤ n ∧ 0 ≤ ma ∧ ma ≤ n ∧ ¬ (0 < ma ∧ ma < mo))
def newZ (c : Cf) : Zs := { c := c, l := List.replicate c.n dz }
def opn (st : Nat) : Bool := st == 2 || st == 3
def atv (st : Nat) : Bool := opn st || st == 4
def cntO (l : List Zn) : Nat := l.countP fun x => opn x.st
def cntA (l : List Zn) : Nat := l.countP fun x => atv x.st
def leastN (l : List Zn) : Nat → Option Nat
 | 0 => none
 | k + 1 => match leastN l k with
  | none => if (l.getD k dz).st = 2 then some k else none
  | some j => if (l.getD k dz).st = 2 ∧ (l.getD k dz).r < (l.getD j dz).r then some k else some j
def opensE (z : Zs) (i : Nat) : Zs × Nat :=
 if (z.l.getD i dz).st = 1 ∧ 0 < z.c.ma ∧ z.c.ma ≤ cntA z.l then (z, 189) else
 if z.c.mo = 0 ∨ cntO z.l < z.c.mo then (z, 0) else
 match leastN z.l z.l.length with
 | none => (z, 190)
 | some j => ({ z with l := z.l.set j { z.l.getD j dz with st := 4 } }, 0)
def putF (o : Zs) (i n s : Nat) (x : Zn) : Zs := { o with w := o.w + 1, l := o.l.set i { st := if x.p + n = o.c.cap then 14 else s, p := x.p + n, r := o.w + 1 } }
def putE (z : Zs) (i n : Nat) : Zs × Nat :=
 if z.c.cap < (z.l.getD i dz).p + n then (z, 184) else
 if opn (z.l.getD i dz).st = true then (putF z i n (z.l.getD i dz).st (z.l.getD i dz), 0) else
 if (opensE z i).2 = 0 then (putF (opensE z i).1 i n 2 (z.l.getD i dz), 0) else (z, (opensE z i).2)
def insd (z : Zs) (lba n : Int) : Bool := decide (0 ≤ lba ∧ lba ≤ (z.c.n * z.c.sz : Nat) ∧ n ≤ (z.c.n * z.c.sz : Nat) - lba)
def blkd (st : Nat) : Nat := if st = 14 then 185 else if st = 13 then 186 else if st = 15 then 187 else 0
def writeE (z : Zs) (lba n : Int) : Zs × Nat :=
 if n < 1 then (z, 2) else
 if insd z lba n = false then (z, 128) else
 if z.c.sz < lba.toNat % z.c.sz + n.toNat then (z, 184) else
 if blkd (z.l.getD (lba.toNat / z.c.sz) dz).st ≠ 0 then (z, blkd (z.l.getD (lba.toNat / z.c.sz) dz).st) else
 if lba.toNat % z.c.sz ≠ (z.l.getD (lba.toNat / z.c.sz) dz).p then (z, 188) else
 putE z (lba.toNat / z.c.sz) n.toNat
def appendE (z : Zs) (lba n : Int) : Zs × Nat × Nat :=
 if n < 1 then (z, 0, 2) else
 if insd z lba 1 = false then (z, 0, 128) else
 if lba.toNat % z.c.sz ≠ 0 then (z, 0, 2) else
 if blkd (z.l.getD (lba.toNat / z.c.sz) dz).st ≠ 0 then (z, 0, blkd (z.l.getD (lba.toNat / z.c.sz) dz).st) else
 if (putE z (lba.toNat / z.c.sz) n.toNat).2 = 0 then ((putE z (lba.toNat / z.c.sz) n.toNat).1, lba.toNat + (z.l.getD (lba.toNat / z.c.sz) dz).p, 0) else (z, 0, (putE z (lba.toNat / z.c.sz) n.toNat).2)
def offN (l : List Zn) (i j : Nat) : Bool := ((l.take j).drop i).any fun x => x.st == 15
def readE (z : Zs) (lba n : Int) : Nat :=
 if n < 1 then 2 else
 if insd z lba n = false then 128 else
 if offN z.l (lba.toNat / z.c.sz) ((lba.toNat + n.toNat - 1) / z.c.sz + 1) = true then 187 else 0
def closeZ (x : Zn) : Zn := { x with st := if x.p = 0 then 1 else 4 }
def putS (z : Zs) (i : Nat) (x : Zn) : Zs := { z with l := z.l.set i x }
def actE (z : Zs) (i a : Nat) : Zs × Nat :=
 let x := z.l.getD i dz
 if a = 5 then if x.st = 13 ∨ x.st = 15 then (putS z i { x with st := 15 }, 0) else (z, 191) else
 if x.st = 13 ∨ x.st = 15 ∨ x.st = 14 ∧ (a = 1 ∨ a = 3) ∨ x.st = 1 ∧ a = 1 then (z, 191) else
 if a = 3 then if opn x.st = true then (putS z i { x with st := 3 }, 0) else if (opensE z i).2 = 0 then (putS (opensE z i).1 i { x with st := 3 }, 0) else (z, (opensE z i).2) else
 if a = 1 then (putS z i (closeZ x), 0) else
 if a = 2 then (putS z i { x with st := 14, p := z.c.cap }, 0) else
 (putS z i { x with st := 1, p := 0 }, 0)
def manageE (z : Zs) (i a : Int) : Zs × Nat := if i < 0 ∨ z.l.length ≤ i ∨ a < 1 ∨ 5 < a then (z, 2) else actE z i.toNat a.toNat
def concE (a st : Nat) : Bool :=
 if a = 1 then opn st else if a = 2 then atv st else if a = 3 then st == 4 else if a = 4 then atv st || st == 14 else st == 13
def runE (a : Nat) : List Nat → Zs → Zs × Nat
 | [], z => (z, 0)
 | i :: is, z => if (actE z i a).2 = 0 then runE a is (actE z i a).1 else (z, (actE z i a).2)
def manageAllE (z : Zs) (a : Int) : Zs × Nat :=
 if a < 1 ∨ 5 < a then (z, 2) else
 if (runE a.toNat ((List.range z.l.length).filter fun i => concE a.toNat (z.l.getD i dz).st) z).2 = 0 then runE a.toNat ((List.range z.l.length).filter fun i => concE a.toNat (z.l.getD i dz).st) z
 else (z, (runE a.toNat ((List.range z.l.length).filter fun i => concE a.toNat (z.l.getD i dz).st) z).2)
def damageE (z : Zs) (i : Int) (off : Bool) : Zs × Nat :=
 if i < 0 ∨ z.l.length ≤ i then (z, 3) else
 (putS z i.toNat { z.l.getD i.toNat dz with st := if off = true ∨ (z.l.getD i.toNat dz).st = 13 ∨ (z.l.getD i.toNat dz).st = 15 then 15 else 13 }, 0)
def powerE (z : Zs) : Zs := { z with l := z.l.map fun x => if opn x.st = true then closeZ x else x }
def OkZ (z : Zs) : Prop := z.l.length = z.c.n ∧ 1 ≤ z.c.n ∧ z.c.n ≤ 4096 ∧ 1 ≤ z.c.sz ∧ z.c.sz ≤ 65536 ∧ 1 ≤ z.c.cap ∧ z.c.cap ≤ z.c.sz ∧ z.c.mo ≤ z.c.n ∧ z.c.ma ≤ z.c.n ∧ ∀ x ∈ z.l, x.st ≤ 15 ∧ (1 ≤ x.st ∧ (x.st ≤ 4 ∨ 13 ≤ x.st)) ∧ x.p ≤ z.c.cap ∧ x.r ≤ z.w
theorem getD_mem {l : List Zn} {i : Nat} (h : i < l.length) : l.getD i dz ∈ l := by
 rw [List.getD_eq_getElem?_getD, List.getElem?_eq_getElem h]
 exact List.getElem_mem h
theorem leastN_lt (l : List Zn) : ∀ (k j : Nat), leastN l k = some j → j < k ∧ (l.getD j dz).st = 2
 | 0, j, h => by cases h
 | k + 1, j, h => by
  unfold leastN at h
  cases hk : leastN l k with
  | none =>
   rw [hk] at h
   dsimp only at h
   split at h
   ·cases h; exact ⟨Nat.lt_succ_self _, ‹_›⟩
   ·cases h
  | some m =>
   rw [hk] at h
   dsimp only at h
   split at h
   ·rename_i h1; cases h; exact ⟨Nat.lt_succ_self _, h1.1⟩
   ·cases h
    have := leastN_lt l k j hk
    exact ⟨by omega, this.2⟩
theorem OkZ.set {z : Zs} (h : OkZ z) (i w : Nat) (hw : z.w ≤ w) {x : Zn} (hx : x.st ≤ 15 ∧ (1 ≤ x.st ∧ (x.st ≤ 4 ∨ 13 ≤ x.st)) ∧ x.p ≤ z.c.cap ∧ x.r ≤ w) : OkZ { z with l := z.l.set i x, w := w } := by
 obtain ⟨h0, h1, h2, h3, h4, h5, h6, h7, h8, h9⟩ := h
 refine ⟨by rw [List.length_set]; exact h0, h1, h2, h3, h4, h5, h6, h7, h8, fun y hy => ?_⟩
 rcases List.mem_or_eq_of_mem_set hy with hy | rfl
 ·have := h9 y hy
  dsimp only
  omega
 ·exact hx
theorem OkZ.opens {z : Zs} (h : OkZ z) (i : Nat) : OkZ (opensE z i).1 ∧ (opensE z i).1.c = z.c ∧ (opensE z i).1.w = z.w ∧ (opensE z i).1.l.length = z.l.length := by
 unfold opensE
 split
 ·exact ⟨h, rfl, rfl, rfl⟩
 ·split
  ·exact ⟨h, rfl, rfl, rfl⟩
  ·split
   ·exact ⟨h, rfl, rfl, rfl⟩
   ·rename_i j hj
    have hl := leastN_lt z.l _ j hj
    have hm := h.2.2.2.2.2.2.2.2.2 _ (getD_mem hl.1)
    refine ⟨h.set j z.w (Nat.le_refl _) ⟨by simp, by simp, hm.2.2.1, hm.2.2.2⟩, rfl, rfl, by simp⟩
end Zo
end Go.Proofs.Ythpgkkfahiglnaa


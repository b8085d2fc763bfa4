/- Opening slices of PDUs and of steps. No condition. -/
import Derived.Test.YtdngfcmakjlamaaPduOpen
import Derived.Test.YtdngfcmakjlamaaStrJoin
import Derived.SizedLaws
set_option linter.unusedSimpArgs false
set_option linter.unusedVariables false
namespace Go.Proofs.Ytdngfcmakjlamaa
open Go Go.ChangeShapes Go.WideShapes Go.ChangeAt Go.RowKit
namespace Lift
theorem weightsAll_mem {H : Type} {P : Program} {e : TypeId} : ∀ {ds : List (DataW H)} {d : DataW H}, d ∈ ds → ∀ n ∈ d.weights P e, n ∈ DataW.weightsAll P e ds
 | d0 :: ds, d, h, n, hn => by
  simp only [DataW.weightsAll, List.mem_append]
  rcases List.mem_cons.1 h with rfl | h
  ·exact .inl hn
  ·exact .inr (weightsAll_mem h n hn)
 | [], _, h, _, _ => by cases h
/-- A slice of rows of one size, each of them opened. -/
theorem open_rows {H : Type} {enc : TypeId × Value → H} {P : Program} {W : World} {r : Reach} {base : Nat} {t e : TypeId} {v : Value} {d : DataW H} {p : List MemPlace} {z : Nat} {α : Type} (a0 : α) (Q : List Value → α → Prop) (ht : P.underlying t = some (.slice e)) (hc : P.cellsOf e = z) (h0 : 0 < z)
  {Bd : Nat} (hQ : ∀ fuel cs x, DataW.trod enc P W 0 (fun _ => true) true fuel e cs = some x → (∀ k ∈ x.1.weights P e, k ≤ Bd) → ∃ a, Q cs a) (hB : ∀ k ∈ d.weights P t, k ≤ Bd) (hv : Value.okWide P W r base t v)
  (h : DataW.Trod enc P W 0 (fun _ => true) true t v d p) : ∃ A m c, ∃ (l : List (List Value)) (xs : List α), v = .slice A m c ∧ m = xs.length ∧ m * P.bytesOf e ≤ Bd ∧ l.length = xs.length ∧ (∀ x ∈ l, x.length = z) ∧ Li.Rd W A l.flatten ∧ ∀ (i : Nat) (PC : List Value) (a : α), l[i]? = some PC → xs[i]? = some a → Q PC a := by
 obtain ⟨A, m, c, rfl⟩ := okWide_slice ht hv
 obtain ⟨fuel, hf⟩ := h
 rcases Go.Deep.open_slice ht hf with ⟨hcs, _⟩ | ⟨a, len, cap, M, n', D, Pl, hcs, _, hl, hm, hM, hx, hall⟩
 ·simp [Value.cells] at hcs
  obtain ⟨rfl, rfl, rfl⟩ := hcs
  exact ⟨none, 0, 0, [], [], rfl, rfl, by simp, rfl, by simp, .inl rfl, by simp⟩
 ·simp [Value.cells] at hcs
  obtain ⟨rfl, rfl, rfl⟩ := hcs
  simp only [if_true] at hM
  have hd : d = .slice ((List.range m).map D) ((List.range (M - m)).map fun j => D (m + j)) := (Prod.mk.inj hx).1
  have hw : DataW.weights P t d = (((List.range m).map D).length + ((List.range (M - m)).map fun j => D (m + j)).length) * P.bytesOf e :: (DataW.weightsAll P e ((List.range m).map D) ++ DataW.weightsAll P e ((List.range (M - m)).map fun j => D (m + j))) := by
   rw [hd]; simp only [DataW.weights, ht]
  have hmb : m * P.bytesOf e ≤ Bd := by
   have h1 := hB _ (by rw [hw]; exact List.mem_cons_self)
   simp only [List.length_map, List.length_range] at h1
   exact Nat.le_trans (Nat.mul_le_mul_right _ (by omega)) h1
  have hDB : ∀ i, i < m → ∀ k ∈ (D i).weights P e, k ≤ Bd := fun i hi k hk => by
   refine hB k ?_
   rw [hw]
   exact List.mem_cons_of_mem _ (List.mem_append.2 (.inl (weightsAll_mem (List.mem_map.2 ⟨i, List.mem_range.2 hi, rfl⟩) k hk)))
  haveI : Inhabited (List Value × α) := ⟨([], a0)⟩
  obtain ⟨C, hC⟩ := Go.Deep.choose_lt (α := List Value × α) (p := fun i q => W.cells? 0 (a.add (i * P.cellsOf e)) (P.cellsOf e) = some q.1 ∧ Q q.1 q.2) (n := m) (fun i hi => by
   obtain ⟨cs, h1, h2⟩ := hall i (by omega)
   obtain ⟨b, hb⟩ := hQ _ _ _ h2 (hDB i hi)
   exact ⟨(cs, b), h1, hb⟩)
  have hlen : ∀ x ∈ (List.range m).map (fun i => (C i).1), x.length = z := fun x hx => by
   obtain ⟨i, hi, rfl⟩ := List.mem_map.1 hx
   have := (World.cells?_some (hC i (List.mem_range.1 hi)).1).2.1
   rwa [hc] at this
  refine ⟨some a, m, c, (List.range m).map (fun i => (C i).1), (List.range m).map (fun i => (C i).2), rfl, by simp, hmb, by simp, hlen, ?_, ?_⟩
  ·by_cases hz : m = 0
   ·subst hz; exact .inl (by simp)
   ·obtain ⟨b, off, spot⟩ := a
    have cell : ∀ i, i < m → ∀ j, j < z → W.cell? (Addr.add ⟨b, off, spot⟩ (i * z + j)) = ((C i).1)[j]? := fun i hi j hj => by
     have h1 := (World.cells?_some (hC i hi).1).2.2 j (by rw [hc]; exact hj)
     rw [hc] at h1
     have e : (Addr.add ⟨b, off, spot⟩ (i * z)).add j = Addr.add ⟨b, off, spot⟩ (i * z + j) := by
      generalize i * z = u
      by_cases hu : u = 0 <;> by_cases hv : j = 0 <;> simp [Addr.add, hu, hv, Nat.add_assoc]
     rwa [e] at h1
    have hspot : spot = none := by
     have h1 := cell 0 (by omega) 0 h0
     have h2 := hlen (C 0).1 (List.mem_map.2 ⟨0, List.mem_range.2 (by omega), rfl⟩)
     rw [List.getElem?_eq_getElem (by omega)] at h1
     simpa [Addr.add] using World.cell?_spot h1
    subst hspot
    refine .inr ⟨b, off, rfl, fun q hq => ?_⟩
    have hfl : ((List.range m).map (fun i => (C i).1)).flatten.length = m * z := by
     have := flatten_len _ hlen
     simpa using this
    rw [hfl] at hq
    have hi : q / z < m := Nat.div_lt_of_lt_mul (by rw [Nat.mul_comm]; exact hq)
    have hj : q % z < z := Nat.mod_lt _ h0
    have hq2 : q / z * z + q % z = q := by rw [Nat.mul_comm]; exact Nat.div_add_mod _ _
    have h1 := cell _ hi _ hj
    rw [hq2, Addr.add_lit] at h1
    rw [h1]
    have h2 := flatten_get ((List.range m).map (fun i => (C i).1)) (q / z) (q % z) (by simpa using hi) hj hlen
    rw [hq2] at h2
    rw [h2]
    simp
  ·intro i PC b h1 h2
   by_cases hi : i < m
   ·simp only [List.getElem?_map, List.getElem?_range hi, Option.map_some, Option.some.injEq] at h1 h2
    subst h1 h2
    exact (hC i hi).2
   ·simp only [List.getElem?_map, List.getElem?_eq_none (l := List.range m) (by simpa using hi), Option.map_none] at h1
    cases h1
end Lift
namespace Sr
open Pd (Fm PDU pc iv fl fv)
open Se (St At Reads Cell)
open Li (v8 Rd)
/-- A step: kind, bytes, framing. -/
structure Stp where
 k : Int
 x : List (BitVec 8)
 f : Fm
/-- A step's cells. -/
def stl (k : Int) (XA : Option Addr) (n xc : Nat) (f : Fm) : List Value := [.int .i64 k, .slice XA n xc] ++ fl f
/-- Rows of steps. -/
def SS (L : List At) (R : List (List Value)) (xs : List Stp) : Prop := R.length = xs.length ∧ (∀ x ∈ R, x.length = 5) ∧ ∀ (i : Nat) (PC : List Value) (p : Stp), R[i]? = some PC → xs[i]? = some p → ∃ XA xc, PC = stl p.k XA p.x.length xc p.f ∧ Reads L XA (p.x.map v8)
theorem SS.mono {L L' : List At} {R : List (List Value)} {ps : List Stp} (h : SS L R ps) (hm : ∀ a ∈ L, a ∈ L') : SS L' R ps := ⟨h.1, h.2.1, fun i PC p h1 h2 => by
 obtain ⟨XA, xc, h3, h4⟩ := h.2.2 i PC p h1 h2
 exact ⟨XA, xc, h3, h4.mono hm⟩⟩
theorem SS.row {L : List At} {R : List (List Value)} {ps : List Stp} (h : SS L R ps) {i : Nat} (hi : i < ps.length) : ∃ PC XA xc, PC = stl ps[i].k XA ps[i].x.length xc ps[i].f ∧ Reads L XA (ps[i].x.map v8) ∧ ∀ g o, Reads L (some ⟨g, o, none⟩) R.flatten → Reads L (some ⟨g, o + i * 5, none⟩) PC := by
 have hR : i < R.length := by rw [h.1]; exact hi
 obtain ⟨XA, xc, h3, h4⟩ := h.2.2 i R[i] ps[i] (List.getElem?_eq_getElem hR) (List.getElem?_eq_getElem hi)
 refine ⟨R[i], XA, xc, h3, h4, fun g o hr => ?_⟩
 have h6 := (hr.at (i * 5)).take 5
 rwa [flat_row R i _ h.2.1 (List.getElem?_eq_getElem hR)] at h6
theorem SS.ne {L : List At} {R : List (List Value)} {ps : List Stp} (h : SS L R ps) {i : Nat} (hi : i < ps.length) : R.flatten ≠ [] := by
 intro he
 have h1 := flat_len R h.2.1
 rw [he, h.1] at h1
 simp only [List.length_nil] at h1
 omega
section
variable {H : Type} {enc : TypeId × Value → H} {W : World} {r : Reach} {base : Nat} {v : Value} {d : DataW H} {p : List MemPlace}
/-- What is only read, of a list of things. -/
def rds (l : List (Option Addr × List Value)) : List At := l.map fun q => .rd q.1 q.2
set_option maxRecDepth 100000 in
set_option maxHeartbeats 4000000 in
theorem bytes_cell2 {fuel : Nat} {cs : List Value} {x : DataW H × List MemPlace} {Bd : Nat} (hf : DataW.trod enc Try.prog W 0 (fun _ => true) true fuel 24 cs = some x) (hB : ∀ k ∈ x.1.weights Try.prog 24, k ≤ Bd) : ∃ A n c, ∃ bs : List (BitVec 8), cs = [.slice A n c] ∧ n = bs.length ∧ Rd W A (bs.map v8) ∧ n ≤ Bd := by
 rcases open_ints Try.underlying24 Try.underlying5 (by kernel_rfl) hf with ⟨hcs, _⟩ | ⟨y, l, c', zs, hcs, _, hl, hm, hz, hx, hcell, hwz⟩
 ·exact ⟨none, 0, 0, [], hcs, rfl, .inl rfl, Nat.zero_le _⟩
 ·simp only [if_true] at hz
  refine ⟨some y, l, c', (zs.take l).map (BitVec.ofInt 8), hcs, by simp; omega, Lift.rd_ints (by omega) hcell hwz, ?_⟩
  have h1 := hB (((lits .u8 (zs.take l) : List (DataW H)).length + (lits .u8 (zs.drop l) : List (DataW H)).length) * Try.prog.bytesOf 5) (by rw [hx]; simp only [DataW.weights, Try.underlying24]; exact List.mem_cons_self)
  rw [show Try.prog.bytesOf 5 = 1 by kernel_rfl] at h1
  simp only [lits, List.length_map, List.length_take, List.length_drop] at h1
  omega
set_option maxRecDepth 100000 in
set_option maxRecDepth 100000 in
set_option maxHeartbeats 4000000 in
theorem stp_cells {Bd : Nat} {fuel : Nat} {cs : List Value} {x : DataW H × List MemPlace} (hf : DataW.trod enc Try.prog W 0 (fun _ => true) true fuel 61 cs = some x) (hB : ∀ k ∈ x.1.weights Try.prog 61, k ≤ Bd) :
  ∃ (q : Stp × Option Addr × Nat), cs = stl q.1.k q.2.1 q.1.x.length q.2.2 q.1.f ∧ Rd W q.2.1 (q.1.x.map v8) ∧ q.1.x.length ≤ Bd := by
 obtain ⟨xs, m, _, hxx, hl, hxl, hx⟩ := DataW.trod_struct Try.underlying61 hf
 rw [show Try.prog.cellsOf 61 = 5 by kernel_rfl] at hl
 have hxl' : xs.length = 3 := hxl
 obtain ⟨c0, cs, rfl⟩ := List.exists_cons_of_length_eq_add_one hl
 simp only [List.length_cons, Nat.reduceEqDiff] at hl
 obtain ⟨c1, cs, rfl⟩ := List.exists_cons_of_length_eq_add_one hl
 simp only [List.length_cons, Nat.reduceEqDiff] at hl
 have e0 := Pd.fld (t := 3) (c := c0) (hx 0 _ rfl) rfl (by kernel_rfl) rfl
 rw [List.getElem?_eq_getElem (by omega)] at e0
 obtain ⟨z0, h0, _, _⟩ := DataW.trod_int Try.underlying3 e0
 obtain rfl : c0 = .int .i64 z0 := by simpa using h0
 have e1 := Pd.fld (t := 24) (c := c1) (hx 1 _ rfl) rfl (by kernel_rfl) rfl
 rw [List.getElem?_eq_getElem (by omega)] at e1
 obtain ⟨A1, n1, d1, bs1, h1, g1, r1, b1⟩ := bytes_cell2 (Bd := Bd) e1 (fun k hk => by
  refine hB k ?_
  rw [hxx]
  simp only [DataW.weights, Try.underlying61]
  exact DataW.weights_mem_each (j := 1) (t := 24) (d := (xs[1]'(by omega)).1) rfl (by rw [List.getElem?_map, List.getElem?_eq_getElem (by omega)]; rfl) k hk)
 obtain rfl : c1 = .slice A1 n1 d1 := by simpa using h1
 have e2 := hx 2 _ rfl
 rw [List.getElem?_eq_getElem (by omega)] at e2
 have hfit := Lift.fit_of (ks := [none, none, some .i64]) 3 (by kernel_rfl) e2
 have e3 : (List.drop 2 (Value.int .i64 z0 :: .slice A1 n1 d1 :: cs)).take 3 = cs := by
  simp only [List.drop_succ_cons, List.drop_zero]
  exact List.take_of_length_le (by omega)
 have hfit : Lift.fit [none, none, some .i64] cs := by
  rw [← e3]
  exact hfit
 obtain ⟨_, _, rfl, ⟨a0, rfl⟩, _, _, rfl, ⟨a1, rfl⟩, _, _, rfl, ⟨a2, rfl, _⟩, h'⟩ := hfit
 obtain rfl := h'
 subst g1
 exact ⟨(⟨z0, bs1, ⟨a0, a1, a2⟩⟩, A1, d1), rfl, r1, b1⟩
set_option maxRecDepth 100000 in
set_option maxHeartbeats 4000000 in
theorem open_steps (hv : Value.okWide Try.prog W r base 53 v) (h : DataW.Trod enc Try.prog W 0 (fun _ => true) true 53 v d p) {Bd : Nat} (hB : ∀ k ∈ d.weights Try.prog 53, k ≤ Bd) :
  ∃ A n c, ∃ (R : List (List Value)) (qs : List (Stp × Option Addr × Nat)), v = .slice A n c ∧ n = (qs.map (·.1)).length ∧ n ≤ Bd ∧ Rd W A R.flatten ∧ (∀ q ∈ qs, Rd W q.2.1 (q.1.x.map v8)) ∧ (∀ q ∈ qs.map (·.1), q.x.length ≤ Bd) ∧ SS (rds (qs.map fun q => (q.2.1, q.1.x.map v8))) R (qs.map (·.1)) := by
 obtain ⟨A, m, c, l, xs, rfl, hm, hmb, hl, h5, hr, hq⟩ := Lift.open_rows (z := 5) (⟨0, [], ⟨false, false, 0⟩⟩, none, 0) (fun cs (q : Stp × Option Addr × Nat) => cs = stl q.1.k q.2.1 q.1.x.length q.2.2 q.1.f ∧ Rd W q.2.1 (q.1.x.map v8) ∧ q.1.x.length ≤ Bd) Try.underlying53 (by kernel_rfl) (by decide) (fun fuel cs x hf hB => stp_cells hf hB) hB hv h
 rw [show Try.prog.bytesOf 61 = 48 by kernel_rfl] at hmb
 refine ⟨A, m, c, l, xs, rfl, by simpa using hm, by omega, hr, ?_, ?_, ?_⟩
 ·intro q hq'
  obtain ⟨i, hi, rfl⟩ := List.getElem_of_mem hq'
  exact (hq i _ _ (List.getElem?_eq_getElem (by omega)) (List.getElem?_eq_getElem hi)).2.1
 ·intro q hq'
  obtain ⟨q, hq2, rfl⟩ := List.mem_map.1 hq'
  obtain ⟨i, hi, rfl⟩ := List.getElem_of_mem hq2
  exact (hq i _ _ (List.getElem?_eq_getElem (by omega)) (List.getElem?_eq_getElem hi)).2.2
 ·refine ⟨by simpa using hl, h5, fun i PC p h1 h2 => ?_⟩
  simp only [List.getElem?_map, Option.map_eq_some_iff] at h2
  obtain ⟨q, h3, rfl⟩ := h2
  refine ⟨q.2.1, q.2.2, (hq i PC q h1 h3).1, ?_⟩
  refine Reads.rdm ?_
  unfold rds
  rw [List.map_map]
  exact List.mem_map.2 ⟨q, List.mem_of_getElem? h3, rfl⟩
set_option maxRecDepth 100000 in
set_option maxHeartbeats 4000000 in
theorem open_pdus (hv : Value.okWide Try.prog W r base 31 v) (h : DataW.Trod enc Try.prog W 0 (fun _ => true) true 31 v d p) {Bd : Nat} (hB : ∀ k ∈ d.weights Try.prog 31, k ≤ Bd) :
  ∃ A n c, ∃ (R : List (List Value)) (ps : List PDU) (qs : List (Option Addr × List Value)), v = .slice A n c ∧ n = ps.length ∧ n ≤ Bd ∧ Rd W A R.flatten ∧ (∀ q ∈ qs, Rd W q.1 q.2) ∧ PP (rds qs) R ps := by
 obtain ⟨A, m, c, l, xs, rfl, hm, hmb, hl, h5, hr, hq⟩ := Lift.open_rows (z := 14) ({}, none, 0, none, 0) (fun cs (q : PDU × Option Addr × Nat × Option Addr × Nat) => cs = pc q.1.h q.2.1 q.1.en.length q.2.2.1 q.2.2.2.1 q.1.da.length q.2.2.2.2 ∧ Rd W q.2.1 (q.1.en.map v8) ∧ Rd W q.2.2.2.1 (q.1.da.map v8)) Try.underlying31 (by kernel_rfl) (by decide) (fun fuel cs x hf hB => by
  obtain ⟨q, EA, en, ec, DA, dn, dc, h1, rfl, h2, rfl, h3⟩ := Pd.pdu_cells hf
  exact ⟨(q, EA, ec, DA, dc), h1, h2, h3⟩) hB hv h
 rw [show Try.prog.bytesOf 41 = 88 by kernel_rfl] at hmb
 refine ⟨A, m, c, l, xs.map (·.1), xs.flatMap (fun q => [(q.2.1, q.1.en.map v8), (q.2.2.2.1, q.1.da.map v8)]), rfl, by simpa using hm, by omega, hr, ?_, ?_⟩
 ·intro q hq'
  obtain ⟨y, hy, hq2⟩ := List.mem_flatMap.1 hq'
  obtain ⟨i, hi, rfl⟩ := List.getElem_of_mem hy
  have h3 := (hq i _ _ (List.getElem?_eq_getElem (by omega)) (List.getElem?_eq_getElem hi)).2
  simp only [List.mem_cons, List.not_mem_nil, or_false] at hq2
  rcases hq2 with rfl | rfl
  ·exact h3.1
  ·exact h3.2
 ·refine ⟨by simpa using hl, fun i PC p h1 h2 => ?_⟩
  simp only [List.getElem?_map, Option.map_eq_some_iff] at h2
  obtain ⟨q, h3, rfl⟩ := h2
  have hmem : ∀ y ∈ [(q.2.1, q.1.en.map v8), (q.2.2.2.1, q.1.da.map v8)], At.rd y.1 y.2 ∈ rds (xs.flatMap (fun q => [(q.2.1, q.1.en.map v8), (q.2.2.2.1, q.1.da.map v8)])) := fun y hy =>
   List.mem_map.2 ⟨y, List.mem_flatMap.2 ⟨q, List.mem_of_getElem? h3, hy⟩, rfl⟩
  exact ⟨q.2.1, q.2.2.1, q.2.2.2.1, q.2.2.2.2, (hq i PC q h1 h3).1, Reads.rdm (hmem (q.2.1, q.1.en.map v8) (by simp)), Reads.rdm (hmem (q.2.2.2.1, q.1.da.map v8) (by simp))⟩
end
end Sr
end Go.Proofs.Ytdngfcmakjlamaa
/- Layer 36: the laws' walks as the claims take them. No condition. -/
namespace Go.Proofs.Ytdngfcmakjlamaa
open Go Go.ChangeShapes Go.WideShapes Go.ChangeAt Go.RowKit
namespace Sr
open Pd (Fm PDU pc iv fl fv)
open Se (St At Reads Cell)
open Li (v8 Rd)
theorem rds_own : ∀ (l : List (Option Addr × List Value)), Se.ownedL (rds l) = []
 | [] => rfl
 | q :: l => by
  have h := rds_own l
  show At.owned (.rd q.1 q.2) ++ Se.ownedL (rds l) = []
  rw [h]
  rfl
/-- The world at a call: what is read there. -/
theorem start_rds {W : World} {l : List (Option Addr × List Value)} (h : ∀ q ∈ l, Rd W q.1 q.2) : St W [] (rds l) W := by
 refine St.start W ?_ ?_
 ·intro a ha
  obtain ⟨q, hq, rfl⟩ := List.mem_map.1 ha
  exact h q hq
 ·exact rds_own l
theorem rds_mem {l : List (Option Addr × List Value)} {q : Option Addr × List Value} (h : q ∈ l) : Reads (rds l) q.1 q.2 := Reads.rdm (List.mem_map.2 ⟨q, h, rfl⟩)
theorem rds_sub {l l' : List (Option Addr × List Value)} (h : ∀ q ∈ l, q ∈ l') : ∀ a ∈ rds l, a ∈ rds l' := fun a ha => by
 obtain ⟨q, hq, rfl⟩ := List.mem_map.1 ha
 exact List.mem_map.2 ⟨q, h q hq, rfl⟩
theorem SS.rds {l l' : List (Option Addr × List Value)} {R : List (List Value)} {xs : List Stp} (h : SS (rds l) R xs) (hm : ∀ q ∈ l, q ∈ l') : SS (rds l') R xs := h.mono (rds_sub hm)
end Sr
end Go.Proofs.Ytdngfcmakjlamaa


/- Slices of one-cell elements: what reads as a list, what lies in a block of its own, append. No condition but Go's own limits. -/
import Derived.Test.YtgpbmohfgjmpkaaMake
import Derived.Laws.Append
import Derived.Deep.AppendSrc
import Derived.Deep.Upon
import Derived.ArgAppend
import Derived.Below
namespace Go.Proofs.Ytgpbmohfgjmpkaa
open Go Go.RowKit
namespace Li
/-- The slice's address A reads as xs. -/
def Rd (w : World) (A : Option Addr) (xs : List Value) : Prop := xs = [] ∨ ∃ g off, A = some ⟨g, off, none⟩ ∧ ∀ i, i < xs.length → w.cell? ⟨g, off + i, none⟩ = xs[i]?
/-- A slice with address A and capacity c that lies in a block r of its own. -/
def Os (w : World) (t : TypeId) (r : Option Nat) (A : Option Addr) (c : Nat) (xs : List Value) : Prop :=
  (c = 0 ∧ xs = [] ∧ r = none) ∨ ∃ g off l, A = some ⟨g, off, none⟩ ∧ r = some g ∧ Blk w g l t ∧ off + c ≤ l.length ∧ xs.length ≤ c ∧ c ≤ maxLen ∧ (l.drop off).take xs.length = xs
theorem Rd.nil (w : World) (A : Option Addr) : Rd w A [] := .inl rfl
theorem Rd.below {w w' : World} {A : Option Addr} {xs : List Value} {B : Nat} (h : Rd w A xs) (hb : Below B w w') (hlt : ∀ a, A = some a → xs ≠ [] → a.block < B) : Rd w' A xs := by
  by_cases hx : xs = []
  · exact .inl hx
  rcases h with rfl | ⟨g, off, rfl, h⟩
  · exact .inl rfl
  · exact .inr ⟨g, off, rfl, fun i hi => (hb.cell (p := ⟨g, off + i, none⟩) (show g < B from hlt ⟨g, off, none⟩ rfl hx)).trans (h i hi)⟩
theorem Rd.grow {w w' : World} {A : Option Addr} {xs : List Value} (h : Rd w A xs) (hb : Below w.heap.size w w') : Rd w' A xs := by
  rcases h with rfl | ⟨g, off, rfl, h⟩
  · exact .inl rfl
  · refine .inr ⟨g, off, rfl, fun i hi => (hb.cell (p := ⟨g, off + i, none⟩) ?_).trans (h i hi)⟩
    have := h i hi
    rw [List.getElem?_eq_getElem hi] at this
    exact World.block_lt_of_cell? _ _ this
theorem Rd.of_blk {w : World} {g : Nat} {l : List Value} {t : TypeId} (h : Blk w g l t) : Rd w (some ⟨g, 0, none⟩) l := .inr ⟨g, 0, rfl, fun i _ => by rw [Nat.zero_add]; exact h.cell i⟩
theorem Rd.take {w : World} {A : Option Addr} {xs : List Value} (h : Rd w A xs) (k : Nat) : Rd w A (xs.take k) := by
  rcases h with rfl | ⟨g, off, rfl, h⟩
  · exact .inl (by simp)
  · refine .inr ⟨g, off, rfl, fun i hi => ?_⟩
    rw [List.length_take] at hi
    rw [h i (by omega), List.getElem?_take_of_lt (by omega)]
theorem Rd.cells {w : World} {A : Option Addr} {xs : List Value} (h : Rd w A xs) (hx : xs ≠ []) : ∃ g off, A = some ⟨g, off, none⟩ ∧ g < w.heap.size ∧ ∀ i, i < xs.length → w.cell? ⟨g, off + i, none⟩ = xs[i]? := by
  rcases h with rfl | ⟨g, off, rfl, h⟩
  · exact absurd rfl hx
  · have h0 : 0 < xs.length := List.length_pos_iff.2 hx
    refine ⟨g, off, rfl, ?_, h⟩
    have := h 0 h0
    rw [List.getElem?_eq_getElem h0] at this
    exact World.block_lt_of_cell? _ _ this
theorem Os.rd {w : World} {t : TypeId} {r : Option Nat} {A : Option Addr} {c : Nat} {xs : List Value} (h : Os w t r A c xs) : Rd w A xs := by
  rcases h with ⟨_, rfl, _⟩ | ⟨g, off, l, rfl, _, hb, hl, hc, _, hx⟩
  · exact .inl rfl
  · refine .inr ⟨g, off, rfl, fun i hi => ?_⟩
    rw [hb.cell]
    conv => rhs; rw [← hx]
    rw [List.getElem?_take_of_lt hi, List.getElem?_drop]
theorem Os.nil (w : World) (t : TypeId) (A : Option Addr) : Os w t none A 0 [] := .inl ⟨rfl, rfl, rfl⟩
theorem Os.le {w : World} {t : TypeId} {r : Option Nat} {A : Option Addr} {c : Nat} {xs : List Value} (h : Os w t r A c xs) : xs.length ≤ c := by
  rcases h with ⟨_, rfl, _⟩ | ⟨g, off, l, rfl, _, hb, hl, hc, _, hx⟩
  · simp
  · exact hc
theorem Os.lt {w : World} {t : TypeId} {g : Nat} {A : Option Addr} {c : Nat} {xs : List Value} (h : Os w t (some g) A c xs) : g < w.heap.size := by
  rcases h with ⟨_, _, h⟩ | ⟨g', off, l, rfl, h, hb, hl, hc, _, hx⟩
  · cases h
  · cases h; exact hb.lt
theorem Os.of_block {w w' : World} {t : TypeId} {r : Option Nat} {A : Option Addr} {c : Nat} {xs : List Value} (h : Os w t r A c xs) (e : ∀ g, r = some g → w'.heap[g]? = w.heap[g]?) : Os w' t r A c xs := by
  rcases h with h | ⟨g, off, l, rfl, rfl, hb, hl, hc, hm, hx⟩
  · exact .inl h
  · exact .inr ⟨g, off, l, rfl, rfl, hb.of_block (e g rfl), hl, hc, hm, hx⟩
theorem Os.grow {w w' : World} {t : TypeId} {r : Option Nat} {A : Option Addr} {c : Nat} {xs : List Value} (h : Os w t r A c xs) (hb : Below w.heap.size w w') : Os w' t r A c xs :=
  h.of_block fun g hg => hb.block g (by subst hg; exact h.lt)
/-- Two blocks of different types. -/
theorem Os.ne {w : World} {t u : TypeId} {g : Nat} {r : Option Nat} {A : Option Addr} {c : Nat} {xs l : List Value} (h : Os w t r A c xs) (k : Blk w g l u) (hne : t ≠ u) : r ≠ some g := by
  rintro rfl
  rcases h with ⟨_, _, h⟩ | ⟨g', off, l', rfl, h, hb, _⟩
  · cases h
  · cases h
    unfold Blk at hb k
    rw [hb] at k
    injection k with k
    injection k with _ k2
    exact hne k2
/-- From the k-th element on: with Go's rule on the address. -/
theorem Os.from_ {w : World} {t : TypeId} {r : Option Nat} {A : Option Addr} {c : Nat} {xs : List Value} (h : Os w t r A c xs) (k : Nat) (hk : k ≤ xs.length) :
    ∃ r', Os w t r' (if c = k then A else A.map (·.add k)) (c - k) (xs.drop k) ∧ (r' = r ∨ r' = none) := by
  rcases h with ⟨rfl, rfl, rfl⟩ | ⟨g, off, l, rfl, rfl, hb, hl, hc, hm, hx⟩
  · exact ⟨none, .inl ⟨by omega, by simp, rfl⟩, .inl rfl⟩
  · by_cases hck : c = k
    · refine ⟨none, .inl ⟨by omega, ?_, rfl⟩, .inr rfl⟩
      exact List.drop_eq_nil_of_le (by omega)
    · refine ⟨some g, .inr ⟨g, off + k, l, ?_, rfl, hb, by omega, by rw [List.length_drop]; omega, by omega, ?_⟩, .inl rfl⟩
      · rw [if_neg hck]; simp [Addr.add_lit]
      · conv => rhs; rw [← hx]
        rw [List.drop_take, List.drop_drop, List.length_drop]
theorem getElem?_of_take {l xs : List Value} {off : Nat} (hx : (l.drop off).take xs.length = xs) {j : Nat} {u : Value} (h : xs[j]? = some u) : l[off + j]? = some u := by
  have hj : j < xs.length := (List.getElem?_eq_some_iff.1 h).1
  rw [← hx, List.getElem?_take_of_lt hj, List.getElem?_drop] at h
  exact h
/-- append, of whatever one-cell elements. -/
theorem run_append_os {P : Program} {t ty e : TypeId} {z : Value} (ht : P.underlying t = some (.slice e)) (hinfo : (P.info? e).map (fun i => (i.zero, i.size, i.bytes)) = some (some z, 1, 1)) (hz1 : z.cells = #[z])
    {w : World} {r : Option Nat} {A B : Option Addr} {c n m cy : Nat} {xs ys : List Value} (hO : Os w e r A c xs) (hR : Rd w B ys) (hy : ∀ v ∈ ys, v.oneCell' = true) (hn : n = xs.length) (hm : m = ys.length) (hle : n + m ≤ 70368744177664) :
    ∃ A' c' r' w', (Builtin.append_ #[t, t] ty #[.slice A n c, .slice B m cy]).run P w = .ok (.slice A' (n + m) c') w' ∧ Os w' e r' A' c' (xs ++ ys) ∧ w.grownBy w' r ∧ (r' = r ∨ r' = some w.heap.size) := by
  subst hn hm
  cases hi : P.info? e with
  | none => simp [hi] at hinfo
  | some i =>
    simp only [hi, Option.map_some, Option.some.injEq, Prod.mk.injEq] at hinfo
    obtain ⟨hz, hs1, hby⟩ := hinfo
    by_cases hy0 : ys = []
    · subst hy0
      have hsrc : Src P i.size t (.slice B 0 cy) 0 [] w := ⟨.inl ⟨e, ht⟩, fun w' => by simp [Builtin.lenOf], by cases B <;> simp [Builtin.firstCells, loadCells, loadCellsFrom], by cases B <;> simp [Builtin.firstCells, loadCells, loadCellsFrom], by simp, by simp⟩
      have hr := run_append_nothing (P := P) w t t ty e i ht hi A xs.length c hO.le (.slice B 0 cy) hsrc
      exact ⟨A, c, r, w, by simpa using hr, by simpa using hO, ⟨rfl, rfl, rfl, Nat.le_refl _, fun _ _ _ => rfl⟩, .inl rfl⟩
    · obtain ⟨g2, o2, rfl, _, hc2⟩ := hR.cells hy0
      have hp : 0 < ys.length := List.length_pos_iff.2 hy0
      have hnews : ∀ j u, ys[j]? = some u → w.cell? ((⟨g2, o2, none⟩ : Addr).add j) = some u := fun j u hu => by
        rw [Addr.add_lit, hc2 j (List.getElem?_eq_some_iff.1 hu).1]; exact hu
      have hmax : (maxLen : Nat) = 9223372036854775807 := rfl
      have hge := grownCap_ge w (xs.length + ys.length) c e
      have hcm := grownCap_le_maxLen w (xs.length + ys.length) c e (by omega)
      have hd : w.heap.size = w.drew.heap.size := rfl
      by_cases hroom : xs.length + ys.length ≤ c
      · rcases hO with ⟨rfl, rfl, rfl⟩ | ⟨g, off, l, rfl, rfl, hb, hl, hc, hmx, hx⟩
        · omega
        · have hr := run_append_room_cells (P := P) w t ty e i ht hi g off xs.length c ⟨g2, o2, none⟩ ys.length cy ys (by simp [hs1]) hnews hy hroom
            (fun j hj => by rw [hb.cell, hs1]; simp; omega) (fun j hj => hb.frozen _)
          rw [hs1, Nat.mul_one] at hr
          refine ⟨_, _, some g, _, hr, .inr ⟨g, off, _, rfl, rfl, hb.setCells ys (off + xs.length) (by omega), ?_, by rw [List.length_append]; exact hroom, hmx, ?_⟩, ⟨?_, ?_, ?_, ?_, ?_⟩, .inl rfl⟩
          · simp only [List.length_append, List.length_take, List.length_drop]; omega
          · have e1 : (l.take (off + xs.length) ++ ys ++ l.drop (off + xs.length + ys.length)).drop off = xs ++ ys ++ l.drop (off + xs.length + ys.length) := by
              rw [List.append_assoc, List.drop_append_of_le_length (by rw [List.length_take]; omega), List.drop_take, Nat.add_sub_cancel_left, hx, List.append_assoc]
            rw [e1, List.length_append, ← List.length_append]
            exact List.take_left
          · exact (below_setCells ys _ w g (Below.refl 0 w) (Nat.zero_le _)).os
          · exact (below_setCells ys _ w g (Below.refl 0 w) (Nat.zero_le _)).tape
          · exact (below_setCells ys _ w g (Below.refl 0 w) (Nat.zero_le _)).output
          · rw [size_setCells]; exact Nat.le_refl _
          · intro k _ hk
            exact heap_setCells_other ys _ w g k (fun h => hk (by rw [h]))
      · have hx2 : xs.length = xs.length * i.size := by rw [hs1, Nat.mul_one]
        have hy2 : ys.length = ys.length * i.size := by rw [hs1, Nat.mul_one]
        have hgrown : ∀ (q : Nat) (cs : Array Value) (hq : xs.length + ys.length ≤ q) (hqm : q ≤ maxLen) (hcs : cs.size = q) (hpre : cs.toList.take (xs.length + ys.length) = xs ++ ys),
            Os (w.drew.alloc (.cells cs e)) e (some w.heap.size) (some ⟨w.heap.size, 0, none⟩) q (xs ++ ys) ∧ w.grownBy (w.drew.alloc (.cells cs e)) r := by
          intro q cs hq hqm hcs hpre
          refine ⟨.inr ⟨w.heap.size, 0, cs.toList, rfl, rfl, ?_, by simp [hcs], by rw [List.length_append]; exact hq, hqm, by rw [List.drop_zero, List.length_append]; exact hpre⟩, ⟨rfl, rfl, rfl, by simp, fun k hk _ => Below.heap_alloc w.drew _ k hk⟩⟩
          exact Blk.new w.drew cs.toList e
        cases A with
        | some a =>
          have holds : ∀ j v, xs[j]? = some v → w.cell? (a.add j) = some v := by
            rcases hO.rd with rfl | ⟨g, off, h1, h2⟩
            · intro j v hv; simp at hv
            · intro j v hv
              cases h1
              rw [Addr.add_lit, h2 j (List.getElem?_eq_some_iff.1 hv).1]; exact hv
          have hr := run_append_grow (P := P) w t ty e i z ht hi hz a xs.length c xs hx2 holds ⟨g2, o2, none⟩ ys.length cy ys hy2 hnews (by omega) (by omega) (growslice_fits (by omega) (by rw [hby]; omega))
          obtain ⟨k1, k2⟩ := hgrown (grownCap w (xs.length + ys.length) c e) (xs.toArray ++ ys.toArray ++ Builtin.zeroCells z.cells (grownCap w (xs.length + ys.length) c e - (xs.length + ys.length))) hge hcm
            (by simp only [Array.size_append, List.size_toArray, size_zeroCells, hz1]; simp; omega)
            (by simp only [Array.toList_append, List.append_assoc]; rw [← List.append_assoc, ← List.length_append]; exact List.take_left)
          exact ⟨_, _, _, _, hr, k1, k2, .inr rfl⟩
        | none =>
          have h0 : c = 0 ∧ xs = [] ∧ r = none := by
            rcases hO with h | ⟨g, off, l, h, _⟩
            · exact h
            · cases h
          obtain ⟨rfl, rfl, rfl⟩ := h0
          have hge0 := grownCap_ge w ys.length 0 e
          have hcm0 := grownCap_le_maxLen w ys.length 0 e (by simp at hle; omega)
          have hr := run_append_nil (P := P) w t ty e i z ht hi hz ⟨g2, o2, none⟩ ys.length cy ys hy2 hnews hp (by simp at hle; omega) (by rw [hby]; simp at hle; omega)
          obtain ⟨k1, k2⟩ := hgrown (grownCap w ys.length 0 e) (ys.toArray ++ Builtin.zeroCells z.cells (grownCap w ys.length 0 e - ys.length)) (by simpa using hge0) hcm0
            (by simp only [Array.size_append, List.size_toArray, size_zeroCells, hz1]; simp; omega)
            (by simp)
          exact ⟨_, _, _, _, by simpa using hr, k1, k2, .inr rfl⟩
end Li
end Go.Proofs.Ytgpbmohfgjmpkaa

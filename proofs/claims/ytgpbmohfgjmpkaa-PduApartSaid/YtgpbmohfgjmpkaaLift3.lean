/- Values of flat types (structs and arrays of integers and booleans, nested), alone and in slices, opened to their cells. No condition. -/
import Derived.Test.YtgpbmohfgjmpkaaLift2
import Derived.Deep.Slices
namespace Go.Proofs.Ytgpbmohfgjmpkaa
open Go Go.ChangeShapes Go.WideShapes Go.ChangeAt Go.RowKit
namespace Lift
/-- The kinds of a flat type's cells: none for a boolean. -/
def fkF (P : Program) (rec : TypeId → Option (List (Option IntKind))) (t : TypeId) : List Field → Nat → Option (List (Option IntKind))
  | [], o => if o = P.cellsOf t then some [] else none
  | f :: fs, o => if f.offset = o then (rec f.type).bind fun ks => if ks.length = P.cellsOf f.type then (fkF P rec t fs (o + ks.length)).map (ks ++ ·) else none else none
def fk (P : Program) : Nat → TypeId → Option (List (Option IntKind))
  | 0, _ => none
  | n + 1, t =>
    match P.underlying t with
    | some .bool => some [none]
    | some (.int k) => some [some k]
    | some (.struct fs) => fkF P (fk P n) t fs.toList 0
    | some (.array m e) => (fk P n e).bind fun ks => if ks.length = P.cellsOf e ∧ m * ks.length = P.cellsOf t then some (List.replicate m ks).flatten else none
    | _ => none
def fit1 : Option IntKind → Value → Prop
  | none, v => ∃ b, v = .bool b
  | some k, v => ∃ z, v = .int k z ∧ (Lit.int k z).wf = true
def fit : List (Option IntKind) → List Value → Prop
  | [], vs => vs = []
  | k :: ks, vs => ∃ v us, vs = v :: us ∧ fit1 k v ∧ fit ks us
theorem fit_append : ∀ {ks js : List (Option IntKind)} {vs us : List Value}, fit ks vs → fit js us → fit (ks ++ js) (vs ++ us)
  | [], _, vs, _, h, h2 => by
    have : vs = [] := h
    subst this; exact h2
  | k :: ks, _, vs, _, h, h2 => by
    obtain ⟨v, us, rfl, h1, h⟩ := h
    exact ⟨v, _, rfl, h1, fit_append h h2⟩
theorem fit_len : ∀ {ks : List (Option IntKind)} {vs : List Value}, fit ks vs → vs.length = ks.length
  | [], vs, h => by
    have : vs = [] := h
    subst this; rfl
  | k :: ks, vs, h => by
    obtain ⟨v, us, rfl, _, h⟩ := h
    simp [fit_len h]
theorem take_drop_split (cs : List Value) (o m : Nat) : cs.drop o = (cs.drop o).take m ++ cs.drop (o + m) := by
  rw [← List.drop_drop, List.take_append_drop]
section
variable {H : Type} {enc : TypeId × Value → H} {P : Program} {w : World} {base : Nat} {spare : Nat → Bool} {held : Bool}
theorem fit_fields {rec : TypeId → Option (List (Option IntKind))} {t : TypeId} {cs : List Value} (hcs : cs.length = P.cellsOf t) : ∀ (fs : List Field) (o : Nat) (ks : List (Option IntKind)), fkF P rec t fs o = some ks →
    (∀ f ∈ fs, ∀ js, rec f.type = some js → fit js ((cs.drop f.offset).take (P.cellsOf f.type))) → fit ks (cs.drop o)
  | [], o, ks, h, _ => by
    unfold fkF at h
    split at h
    · cases h
      show cs.drop o = []
      exact List.drop_eq_nil_of_le (by omega)
    · cases h
  | f :: fs, o, ks, h, hf => by
    unfold fkF at h
    split at h
    · rename_i ho
      subst ho
      cases hr : rec f.type with
      | none => simp [hr] at h
      | some js =>
        rw [hr, Option.bind_some] at h
        split at h
        · rename_i hl
          cases hq : fkF P rec t fs (f.offset + js.length) with
          | none => simp [hq] at h
          | some qs =>
            simp only [hq, Option.map_some, Option.some.injEq] at h
            subst h
            rw [take_drop_split cs f.offset js.length]
            refine fit_append ?_ (fit_fields hcs fs _ _ hq fun g hg => hf g (List.mem_cons_of_mem _ hg))
            rw [hl]
            exact hf f List.mem_cons_self _ hr
        · cases h
    · cases h
theorem fit_reps {ks : List (Option IntKind)} {cs : List Value} : ∀ (m i : Nat), cs.length = (i + m) * ks.length → (∀ j, i ≤ j → j < i + m → fit ks ((cs.drop (j * ks.length)).take ks.length)) → fit (List.replicate m ks).flatten (cs.drop (i * ks.length))
  | 0, i, hl, _ => by
    show cs.drop _ = []
    exact List.drop_eq_nil_of_le (by rw [hl]; simp)
  | m + 1, i, hl, h => by
    rw [List.replicate_succ, List.flatten_cons, take_drop_split cs (i * ks.length) ks.length]
    refine fit_append (h i (Nat.le_refl _) (by omega)) ?_
    rw [← Nat.succ_mul]
    exact fit_reps m (i + 1) (by rw [hl]; congr 1; omega) fun j h1 h2 => h j (by omega) (by omega)
theorem fit_of : ∀ (n : Nat) {t : TypeId} {fuel : Nat} {cs : List Value} {x : DataW H × List MemPlace} {ks : List (Option IntKind)}, fk P n t = some ks → DataW.trod enc P w base spare held fuel t cs = some x → fit ks cs
  | 0, _, _, _, _, _, hk, _ => by simp [fk] at hk
  | n + 1, t, fuel, cs, x, ks, hk, h => by
    unfold fk at hk
    split at hk
    · rename_i ht
      cases hk
      obtain ⟨b, rfl, _⟩ := DataW.trod_bool ht h
      exact ⟨_, [], rfl, ⟨b, rfl⟩, rfl⟩
    · rename_i k ht
      cases hk
      obtain ⟨z, rfl, _, hz⟩ := DataW.trod_int ht h
      exact ⟨_, [], rfl, ⟨z, rfl, hz⟩, rfl⟩
    · rename_i fs ht
      obtain ⟨xs, m, _, _, hl, hxl, hx⟩ := DataW.trod_struct ht h
      have := fit_fields (cs := cs) hl _ _ _ hk fun f hf js hjs => by
        obtain ⟨i, hi, rfl⟩ := List.getElem_of_mem hf
        have hi' : i < fs.size := by simpa using hi
        have e := hx i fs[i] (by simp [hi'])
        rw [List.getElem?_eq_getElem (by omega)] at e
        simp only [Array.getElem_toList] at hjs ⊢
        exact fit_of n hjs e
      simpa using this
    · rename_i m e ht
      cases hr : fk P n e with
      | none => simp [hr] at hk
      | some js =>
        rw [hr, Option.bind_some] at hk
        split at hk
        · rename_i hc
          cases hk
          obtain ⟨xs, m', _, _, hl, hxl, hx⟩ := DataW.trod_array ht h
          have := fit_reps (ks := js) (cs := cs) m 0 (by rw [hl, ← hc.2]; simp) fun j _ h2 => by
            have e := hx j (by omega)
            rw [List.getElem?_eq_getElem (by omega)] at e
            rw [hc.1]
            exact fit_of n hr e
          simpa using this
        · cases hk
    · cases hk
end
theorem flatten_len {α : Type} {k : Nat} : ∀ (l : List (List α)), (∀ x ∈ l, x.length = k) → l.flatten.length = l.length * k
  | [], _ => by simp
  | x :: l, h => by
    rw [List.flatten_cons, List.length_append, h x List.mem_cons_self, flatten_len l fun y hy => h y (List.mem_cons_of_mem _ hy), List.length_cons, Nat.succ_mul, Nat.add_comm]
theorem flatten_get {α : Type} {k : Nat} : ∀ (l : List (List α)) (i j : Nat) (hi : i < l.length), j < k → (∀ x ∈ l, x.length = k) → l.flatten[i * k + j]? = (l[i])[j]?
  | [], _, _, hi, _, _ => by simp at hi
  | x :: l, 0, j, _, hj, h => by
    rw [List.flatten_cons, Nat.zero_mul, Nat.zero_add, List.getElem?_append_left (by rw [h x List.mem_cons_self]; exact hj)]
    rfl
  | x :: l, i + 1, j, hi, hj, h => by
    have hx := h x List.mem_cons_self
    rw [List.flatten_cons, List.getElem?_append_right (by rw [hx, Nat.succ_mul]; omega), hx]
    rw [show (i + 1) * k + j - k = i * k + j by rw [Nat.succ_mul]; omega]
    exact flatten_get l i j (by simpa using hi) hj fun y hy => h y (List.mem_cons_of_mem _ hy)
/-- A slice of flat elements. -/
theorem open_flats {H : Type} {enc : TypeId × Value → H} {P : Program} {W : World} {r : Reach} {base : Nat} {t e : TypeId} {v : Value} {d : DataW H} {p : List MemPlace} {ks : List (Option IntKind)} (n : Nat) (ht : P.underlying t = some (.slice e)) (hk : fk P n e = some ks) (hc : P.cellsOf e = ks.length) (h0 : 0 < ks.length) (hv : Value.okWide P W r base t v)
    (h : DataW.Trod enc P W 0 (fun _ => true) true t v d p) : ∃ A m c, ∃ l : List (List Value), v = .slice A m c ∧ m = l.length ∧ Li.Rd W A l.flatten ∧ ∀ x ∈ l, fit ks x := by
  obtain ⟨A, m, c, rfl⟩ := okWide_slice ht hv
  obtain ⟨fuel, hf⟩ := h
  rcases Go.Deep.open_slice ht hf with ⟨hcs, _⟩ | ⟨a, len, cap, M, n', D, Pl, hcs, _, hl, hm, hM, _, hall⟩
  · simp [Value.cells] at hcs
    obtain ⟨rfl, rfl, rfl⟩ := hcs
    exact ⟨none, 0, 0, [], rfl, rfl, .inl rfl, by simp⟩
  · simp [Value.cells] at hcs
    obtain ⟨rfl, rfl, rfl⟩ := hcs
    simp only [if_true] at hM
    obtain ⟨C, hC⟩ := Go.Deep.choose_lt (α := List Value) (p := fun i cs => W.cells? 0 (a.add (i * P.cellsOf e)) (P.cellsOf e) = some cs ∧ fit ks cs) (n := m) (fun i hi => by
      obtain ⟨cs, h1, h2⟩ := hall i (by omega)
      exact ⟨cs, h1, fit_of n hk h2⟩)
    refine ⟨some a, m, c, (List.range m).map C, rfl, by simp, ?_, ?_⟩
    · by_cases hz : m = 0
      · subst hz; exact .inl (by simp)
      · obtain ⟨b, off, spot⟩ := a
        have hlen : ∀ x ∈ (List.range m).map C, x.length = ks.length := fun x hx => by
          obtain ⟨i, hi, rfl⟩ := List.mem_map.1 hx
          exact fit_len (hC i (List.mem_range.1 hi)).2
        have cell : ∀ i, i < m → ∀ j, j < ks.length → W.cell? (Addr.add ⟨b, off, spot⟩ (i * ks.length + j)) = (C i)[j]? := fun i hi j hj => by
          have h1 := (World.cells?_some (hC i hi).1).2.2 j (by rw [hc]; exact hj)
          rw [hc] at h1
          have e : (Addr.add ⟨b, off, spot⟩ (i * ks.length)).add j = Addr.add ⟨b, off, spot⟩ (i * ks.length + j) := by
            generalize i * ks.length = u
            by_cases hu : u = 0 <;> by_cases hv : j = 0 <;> simp [Addr.add, hu, hv, Nat.add_assoc]
          rwa [e] at h1
        have hspot : spot = none := by
          have h1 := cell 0 (by omega) 0 h0
          have h2 := fit_len (hC 0 (by omega)).2
          rw [List.getElem?_eq_getElem (by omega)] at h1
          simpa [Addr.add] using World.cell?_spot h1
        subst hspot
        refine .inr ⟨b, off, rfl, fun q hq => ?_⟩
        have hfl : ((List.range m).map C).flatten.length = m * ks.length := by
          have := flatten_len _ hlen
          simpa using this
        rw [hfl] at hq
        have hi : q / ks.length < m := Nat.div_lt_of_lt_mul (by rw [Nat.mul_comm]; exact hq)
        have hj : q % ks.length < ks.length := Nat.mod_lt _ h0
        have hq2 : q / ks.length * ks.length + q % ks.length = q := by rw [Nat.mul_comm]; exact Nat.div_add_mod _ _
        have h1 := cell _ hi _ hj
        rw [hq2, Addr.add_lit] at h1
        rw [h1]
        have h2 := flatten_get ((List.range m).map C) (q / ks.length) (q % ks.length) (by simpa using hi) hj hlen
        rw [hq2] at h2
        rw [h2]
        simp
    · intro x hx
      obtain ⟨i, hi, rfl⟩ := List.mem_map.1 hx
      exact (hC i (List.mem_range.1 hi)).2
/-- One value of a flat struct or array type. -/
theorem open_flatv {H : Type} {enc : TypeId × Value → H} {P : Program} {W : World} {r : Reach} {base : Nat} {t : TypeId} {v : Value} {d : DataW H} {p : List MemPlace} {ks : List (Option IntKind)} (n : Nat) (ht : (P.underlying t).map TypeDesc.isRow = some true) (hk : fk P n t = some ks) (hv : Value.okWide P W r base t v)
    (h : DataW.Trod enc P W 0 (fun _ => true) true t v d p) : ∃ cs : List Value, v = .agg cs.toArray ∧ fit ks cs := by
  obtain ⟨fuel, hf⟩ := h
  have hfit := fit_of n hk hf
  obtain ⟨cs, rfl⟩ : ∃ cs, v = .agg cs := by
    unfold Value.okWide at hv
    split at hv
    · obtain ⟨cs, rfl, _⟩ := hv; exact ⟨_, rfl⟩
    · obtain ⟨cs, rfl, _⟩ := hv; exact ⟨_, rfl⟩
    · rename_i h1 h2
      cases hu : P.underlying t with
      | none => simp [hu] at ht
      | some d =>
        cases d <;> simp [hu, TypeDesc.isRow] at ht
        · exact absurd hu (h2 _ _)
        · exact absurd hu (h1 _)
  exact ⟨cs.toList, by simp, by simpa [Value.cells] using hfit⟩
end Lift
end Go.Proofs.Ytgpbmohfgjmpkaa

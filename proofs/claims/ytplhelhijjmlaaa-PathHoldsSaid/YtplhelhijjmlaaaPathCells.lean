/- Layer 45: how paths lie in memory. -/
import Derived.Test.YtplhelhijjmlaaaPathAll
import Derived.Test.YtplhelhijjmlaaaSepMore
namespace Go.Proofs.Ytplhelhijjmlaaa
open Go Go.RowKit
namespace Pa
open Se (St At Reads Cell)
def cS (x : PS) : List Value := .bool x.on :: .int .i64 x.b :: x.st.map (Value.int .i64)
def cells (l : List PS) : List Value := l.flatMap cS
theorem cS_length {x : PS} (h : okS x) : (cS x).length = 131 := by simp [cS, h.2.2]
theorem flat_length {α β : Type} {f : α → List β} {k : Nat} : ∀ (l : List α), (∀ x ∈ l, (f x).length = k) → (l.flatMap f).length = l.length * k
  | [], _ => by simp
  | x :: l, h => by
    rw [List.flatMap_cons, List.length_append, h x List.mem_cons_self, flat_length l fun y hy => h y (List.mem_cons_of_mem _ hy), List.length_cons, Nat.succ_mul, Nat.add_comm]
theorem flat_get {α β : Type} {f : α → List β} {k : Nat} : ∀ (l : List α) (i j : Nat) (hi : i < l.length), j < k → (∀ x ∈ l, (f x).length = k) → (l.flatMap f)[i * k + j]? = (f l[i])[j]?
  | [], _, _, hi, _, _ => by simp at hi
  | x :: l, 0, j, hi, hj, h => by
    rw [List.flatMap_cons, Nat.zero_mul, Nat.zero_add, List.getElem?_append_left (by rw [h x List.mem_cons_self]; exact hj)]
    rfl
  | x :: l, i + 1, j, hi, hj, h => by
    have hx := h x List.mem_cons_self
    rw [List.flatMap_cons, List.getElem?_append_right (by rw [hx, Nat.succ_mul]; omega), hx]
    rw [show (i + 1) * k + j - k = i * k + j by rw [Nat.succ_mul]; omega]
    exact flat_get l i j (by simpa using hi) hj fun y hy => h y (List.mem_cons_of_mem _ hy)
theorem flat_set {α β : Type} {f : α → List β} {k : Nat} : ∀ (l : List α) (i j : Nat) (hi : i < l.length) (v : β) (y : α), j < k → (∀ x ∈ l, (f x).length = k) → (f l[i]).set j v = f y → (l.flatMap f).set (i * k + j) v = (l.set i y).flatMap f
  | [], _, _, hi, _, _, _, _, _ => by simp at hi
  | x :: l, 0, j, hi, v, y, hj, h, e => by
    rw [List.flatMap_cons, Nat.zero_mul, Nat.zero_add, List.set_append_left _ _ (by rw [h x List.mem_cons_self]; exact hj), List.set_cons_zero, List.flatMap_cons]
    rw [← e]; rfl
  | x :: l, i + 1, j, hi, v, y, hj, h, e => by
    have hx := h x List.mem_cons_self
    rw [List.flatMap_cons, List.set_append_right _ _ (by rw [hx, Nat.succ_mul]; omega), hx, List.set_cons_succ, List.flatMap_cons]
    rw [show (i + 1) * k + j - k = i * k + j by rw [Nat.succ_mul]; omega]
    rw [flat_set l i j (by simpa using hi) v y hj (fun z hz => h z (List.mem_cons_of_mem _ hz)) e]
/-- A Paths object: the two pieces. -/
abbrev pD (D : Nat) (A : Option Addr) (c : Nat) (p : PP) : At := .blk D 74 [.int .i64 p.tries, .slice A p.l.length c]
abbrev pG (g off c : Nat) (p : PP) : At := .own 131 (some g) (some ⟨g, off, none⟩) p.l.length c (cells p.l)
theorem pD_put (D : Nat) (A : Option Addr) (c : Nat) (p : PP) (i : Int) (x : PS) : pD D A c (put p i x) = pD D A c p := by simp [pD, put]
theorem pG_put (g off c : Nat) (p : PP) (i : Int) (x : PS) : pG g off c (put p i x) = .own 131 (some g) (some ⟨g, off, none⟩) p.l.length c (cells (put p i x).l) := by simp [pG, put]
abbrev pO (A : Option Addr) (r : Option Nat) (c : Nat) (p : PP) : At := .own 131 r A p.l.length c (cells p.l)
section
variable {L : List At} {g off c k : Nat} {p : PP} {i : Int}
theorem rng_lt (h : rng p i = 0) : 0 ≤ i ∧ i.toNat < p.l.length := by
  unfold rng at h
  split at h
  · omega
  · cases h
theorem get_eq (h : rng p i = 0) : p.l[i.toNat]'(rng_lt h).2 = get p i := by
  simp [get, List.getD_eq_getElem?_getD, (rng_lt h).2]
theorem cS_len (hp : OkP p) : ∀ x ∈ p.l, (cS x).length = 131 := fun x hx => cS_length (hp.ok x hx)
theorem cells_len (hp : OkP p) : (cells p.l).length = p.l.length * 131 := flat_length _ (cS_len hp)
theorem cells_get (hp : OkP p) (hi : rng p i = 0) {j : Nat} (hj : j < 131) : (cells p.l)[i.toNat * 131 + j]? = (cS (get p i))[j]? := by
  rw [← get_eq hi]; exact flat_get p.l i.toNat j (rng_lt hi).2 hj (cS_len hp)
theorem c_on (hp : OkP p) (hi : rng p i = 0) (h : L[k]? = some (.own 131 (some g) (some ⟨g, off, none⟩) p.l.length c (cells p.l))) : Cell L g (off + i.toNat * 131) (.bool (get p i).on) :=
  (Reads.own k h).cell (i.toNat * 131) (by have := cells_get hp hi (j := 0) (by omega); simpa [cS] using this)
theorem c_b (hp : OkP p) (hi : rng p i = 0) (h : L[k]? = some (.own 131 (some g) (some ⟨g, off, none⟩) p.l.length c (cells p.l))) : Cell L g (off + i.toNat * 131 + 1) (.int .i64 (get p i).b) := by
  rw [Nat.add_assoc]; exact (Reads.own k h).cell (i.toNat * 131 + 1) (by have := cells_get hp hi (j := 1) (by omega); simpa [cS] using this)
theorem c_st (hp : OkP p) (hi : rng p i = 0) (h : L[k]? = some (.own 131 (some g) (some ⟨g, off, none⟩) p.l.length c (cells p.l))) {gr : Int} (hg : grp gr = true) : Cell L g (off + i.toNat * 131 + 2 + gr.toNat) (.int .i64 (stOf (get p i) gr)) := by
  have h2 : 1 ≤ gr ∧ gr ≤ 128 := by simpa [grp] using hg
  have hl := (hp.get hi).2.2
  rw [Nat.add_assoc, Nat.add_assoc]
  refine (Reads.own k h).cell (i.toNat * 131 + (2 + gr.toNat)) ?_
  rw [cells_get hp hi (by omega), Nat.add_comm 2]
  simp only [cS, List.getElem?_cons_succ, List.getElem?_map, stOf, List.getD_eq_getElem?_getD]
  rw [List.getElem?_eq_getElem (by omega)]; simp
theorem set_cells (hp : OkP p) (hi : rng p i = 0) {j : Nat} (hj : j < 131) {v : Value} {y : PS} (e : (cS (get p i)).set j v = cS y) : (cells p.l).set (i.toNat * 131 + j) v = cells (put p i y).l := by
  refine flat_set p.l i.toNat j (rng_lt hi).2 v y hj (cS_len hp) ?_
  rw [get_eq hi]; exact e
theorem set_b (hp : OkP p) (hi : rng p i = 0) (n : Int) : (cells p.l).set (i.toNat * 131 + 1) (.int .i64 n) = cells (put p i { get p i with b := n }).l := set_cells hp hi (by omega) rfl
theorem set_st (hp : OkP p) (hi : rng p i = 0) {gr : Int} (hg : grp gr = true) (s : Int) : (cells p.l).set (i.toNat * 131 + (2 + gr.toNat)) (.int .i64 s) = cells (put p i { get p i with st := (get p i).st.set gr.toNat s }).l := by
  have h2 : 1 ≤ gr ∧ gr ≤ 128 := by simpa [grp] using hg
  refine set_cells hp hi (by omega) ?_
  rw [Nat.add_comm 2]
  simp [cS, List.map_set]
theorem set_on (hp : OkP p) (hi : rng p i = 0) (on : Bool) (b : Int) : (cells p.l).take (i.toNat * 131) ++ [.bool on, .int .i64 b] ++ (cells p.l).drop (i.toNat * 131 + 2) = cells (put p i { get p i with on := on, b := b }).l := by
  have e1 := set_cells hp hi (j := 0) (v := .bool on) (y := { get p i with on := on }) (by omega) rfl
  have hi' : rng (put p i { get p i with on := on }) i = 0 := by
    have := rng_lt hi
    unfold rng put; simp; omega
  have hp' : OkP (put p i { get p i with on := on }) := hp.put i (hp.get hi)
  have e2 := set_b hp' hi' b
  have hl := rng_lt hi
  have e3 : put (put p i { get p i with on := on }) i { get (put p i { get p i with on := on }) i with b := b } = put p i { get p i with on := on, b := b } := by
    simp [put, get, List.getD_eq_getElem?_getD, hl.2]
  rw [e3, ← e1] at e2
  rw [← e2]
  have hc := cells_len hp
  have : i.toNat * 131 + 131 ≤ p.l.length * 131 := by omega
  apply List.ext_getElem?
  intro j
  simp only [List.getElem?_append, List.length_append, List.length_take, List.getElem?_take, List.getElem?_drop, List.getElem?_set, List.length_cons, List.length_nil, List.length_set, hc, Nat.add_zero]
  by_cases h1 : j < i.toNat * 131
  · rw [if_pos (by omega), if_pos (by omega), if_pos h1, if_neg (by omega), if_neg (by omega)]
  · by_cases h2 : j = i.toNat * 131
    · subst h2
      rw [if_pos (by omega), if_neg (by omega), if_neg (by omega), if_pos rfl, if_pos (by omega)]
      rw [Nat.min_eq_left (by omega), Nat.sub_self]; rfl
    · by_cases h3 : j = i.toNat * 131 + 1
      · subst h3
        rw [if_pos (by omega), if_neg (by omega), if_pos rfl, if_pos (by omega)]
        rw [Nat.min_eq_left (by omega), Nat.add_sub_cancel_left]; rfl
      · rw [if_neg (by omega), if_neg (by omega), if_neg (by omega)]
        congr 1; omega
end
end Pa
end Go.Proofs.Ytplhelhijjmlaaa

/- Layer 45 in plain Lean: the program's paths are the reference's, but for the state of group 0, which nobody asks. -/
import Derived.Test.YtplhelhijjmlaaaPathOver
set_option linter.unusedSimpArgs false
set_option linter.unusedVariables false
namespace Go.Proofs.Ytplhelhijjmlaaa
namespace Pa
def h1 (x : PS) : PS := { x with st := x.st.set 0 1 }
def mapP (p : PP) : PP := { p with l := p.l.map h1 }
theorem mapP_len (p : PP) : (mapP p).l.length = p.l.length := by simp [mapP]
theorem rng_map (p : PP) (i : Int) : rng (mapP p) i = rng p i := by unfold rng; rw [mapP_len]
theorem at_map (p : PP) (i : Int) (v : Bool) : at' (mapP p) i v = at' p i v := by unfold at'; rw [rng_map]
theorem get_map {p : PP} {i : Int} (h : rng p i = 0) : get (mapP p) i = h1 (get p i) := by
  have := rng_lt h
  simp [get, mapP, List.getD_eq_getElem?_getD, this.2]
theorem getD_map (l : List PS) {k : Nat} (h : k < l.length) : (l.map h1).getD k dead = h1 (l.getD k dead) := by
  simp [List.getD_eq_getElem?_getD, h]
theorem put_map (p : PP) (i : Int) (x : PS) : put (mapP p) i (h1 x) = mapP (put p i x) := by
  simp [put, mapP, List.map_set]
theorem h1_on (x : PS) : (h1 x).on = x.on := rfl
theorem h1_b (x : PS) : (h1 x).b = x.b := rfl
theorem h1_set (x : PS) {g : Int} (hg : grp g = true) (s : Int) : { h1 x with st := (h1 x).st.set g.toNat s } = h1 { x with st := x.st.set g.toNat s } := by
  have h2 : 1 ≤ g ∧ g ≤ 128 := by simpa [grp] using hg
  simp only [h1]
  rw [List.set_comm _ _ (by omega)]
theorem h1_st (x : PS) {g : Int} (hg : grp g = true) : stOf (h1 x) g = stOf x g := by
  have h2 : 1 ≤ g ∧ g ≤ 128 := by simpa [grp] using hg
  simp only [stOf, h1, List.getD_eq_getElem?_getD]
  rw [List.getElem?_set_ne (by omega)]
theorem okS_h1 {x : PS} (h : okS x) : okS (h1 x) := ⟨h.1, h.2.1, by simpa [h1] using h.2.2⟩
theorem OkP.map {p : PP} (h : OkP p) : OkP (mapP p) := ⟨h.t1, h.t2, by rw [mapP_len]; exact h.n1, by rw [mapP_len]; exact h.n2, fun x hx => by
  obtain ⟨y, hy, rfl⟩ := List.mem_map.1 hx
  exact okS_h1 (h.ok y hy)⟩
theorem setState_map (p : PP) (i g s : Int) : setState (mapP p) i g s = (mapP (setState p i g s).1, (setState p i g s).2) := by
  unfold setState
  simp only [at_map]
  split
  · rename_i h
    obtain ⟨hv, hr⟩ := at_ok h
    have hg : grp g = true := by simp only [Bool.and_eq_true] at hv; exact hv.1
    rw [get_map hr, h1_set _ hg, put_map]
  · rfl
theorem state_map (p : PP) (i g : Int) : state (mapP p) i g = state p i g := by
  unfold state
  simp only [at_map]
  split
  · rename_i h
    obtain ⟨hv, hr⟩ := at_ok h
    rw [get_map hr, h1_st _ hv]
  · rfl
theorem turn_map (p : PP) (i : Int) (on : Bool) : turn (mapP p) i on = (mapP (turn p i on).1, (turn p i on).2) := by
  unfold turn
  simp only [rng_map]
  by_cases h : rng p i = 0
  · simp only [h, ne_eq, not_true_eq_false, if_false, get_map h, h1_on]
    split
    · rfl
    · rw [show { h1 (get p i) with on := on, b := 0 } = h1 { get p i with on := on, b := 0 } from rfl, put_map]; rfl
  · simp only [ne_eq, h, not_false_eq_true, if_true]
theorem submit_map (p : PP) (i n : Int) : submit (mapP p) i n = (mapP (submit p i n).1, (submit p i n).2) := by
  unfold submit
  simp only [at_map]
  by_cases h : at' p i (byt n) = 0
  · simp only [h, ne_eq, not_true_eq_false, if_false, get_map (at_ok h).2, h1_on, h1_b]
    split
    · rfl
    · split
      · rfl
      · exact Prod.ext (put_map p i { get p i with b := (get p i).b + n }) rfl
  · simp only [ne_eq, h, not_false_eq_true, if_true]
theorem done_map (p : PP) (i n : Int) : done (mapP p) i n = (mapP (done p i n).1, (done p i n).2) := by
  unfold done
  simp only [at_map]
  by_cases h : at' p i (byt n) = 0
  · simp only [h, ne_eq, not_true_eq_false, if_false, get_map (at_ok h).2, h1_on, h1_b]
    split
    · rfl
    · split
      · rfl
      · exact Prod.ext (put_map p i { get p i with b := (get p i).b - n }) rfl
  · simp only [ne_eq, h, not_false_eq_true, if_true]
theorem learn_map (p : PP) (i g : Int) (s : Sta) : learn (mapP p) i g s = (mapP (learn p i g s).1, (learn p i g s).2) := by
  unfold learn
  simp only [at_map]
  by_cases h : at' p i (grp g) = 0
  · simp only [h, ne_eq, not_true_eq_false, if_false, get_map (at_ok h).2]
    generalize (if s.ty = 3 then learnt s.code else none) = o
    cases o with
    | none => rfl
    | some t => simp only []; rw [h1_set _ (at_ok h).1, put_map]
  · simp only [ne_eq, h, not_false_eq_true, if_true]
theorem use_map {g : Int} (hg : grp g = true) (s : Int) (x : PS) : use g s (h1 x) = use g s x := by
  unfold use; rw [h1_on, h1_st _ hg]
theorem best_map {g : Int} (hg : grp g = true) (l : List PS) (s : Int) : ∀ k, k ≤ l.length → bestN (l.map h1) g s k = bestN l g s k
  | 0, _ => rfl
  | k + 1, h => by
    have hlt : ∀ j, bestN l g s k = some j → j < l.length := fun j hj => by
      have := bI_bd l g s k; rw [hj] at this; simp only [bI] at this; omega
    simp only [bestN, best_map hg l s k (by omega), getD_map l (show k < l.length by omega), use_map hg]
    cases hb : bestN l g s k with
    | none => rfl
    | some j => simp only [getD_map l (hlt j hb), h1_b]
theorem any_map {g : Int} (hg : grp g = true) (l : List PS) (s : Int) : ∀ k, k ≤ l.length → anyN (l.map h1) g s k = anyN l g s k
  | 0, _ => rfl
  | k + 1, h => by simp only [anyN, any_map hg l s k (by omega), getD_map l (show k < l.length by omega), use_map hg]
theorem pick_map (p : PP) (g : Int) : pick (mapP p) g = pick p g := by
  unfold pick
  cases hg : grp g with
  | false => simp
  | true => simp only [mapP_len]; simp only [mapP, best_map hg p.l _ _ (Nat.le_refl _), any_map hg p.l _ _ (Nat.le_refl _)]
theorem route_map (p : PP) (i g : Int) (s : Sta) (t : Int) : route (mapP p) i g s t = (mapP (route p i g s t).1, (route p i g s t).2) := by
  unfold route
  simp only [at_map, learn_map, pick_map]
  by_cases h : at' p i (grp g && decide (0 ≤ t)) = 0
  · have hr : rng (learn p i g s).1 i = 0 := by
      have := (at_ok h).2
      unfold rng at this ⊢; rw [learn_len]; exact this
    simp only [h, ne_eq, not_true_eq_false, if_false, get_map hr, h1_on]
    rw [show (mapP p).tries = p.tries from rfl]
    split
    · rfl
    · split
      · rfl
      · split
        · rfl
        · split
          · rfl
          · split <;> rfl
  · simp only [ne_eq, h, not_false_eq_true, if_true]
theorem new_map (n t : Int) : newP1 n t = (newP n t).map mapP := by
  rw [newP_eq]; unfold newP1
  split
  · simp only [Option.map_some, mapP, List.map_replicate]; rfl
  · rfl
end Pa
end Go.Proofs.Ytplhelhijjmlaaa

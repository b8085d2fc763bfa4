/- Layer 45 in plain Lean: what each method answers. No program in sight. -/
import Derived.Test.YtplhelhijjmlaaaLib
namespace Go.Proofs.Ytplhelhijjmlaaa
namespace Pa
/-- A path: connected, outstanding bytes, its states by group. -/
structure PS where
  on : Bool
  b : Int
  st : List Int
  deriving DecidableEq
structure PP where
  tries : Int
  l : List PS
  deriving DecidableEq
/-- A status: type, code, more, never. -/
structure Sta where
  ty : Int
  code : Int
  more : Bool
  never : Bool
  deriving DecidableEq
def maxB : Int := 1099511627776
def dead : PS := ⟨false, 0, []⟩
def get (p : PP) (i : Int) : PS := p.l.getD i.toNat dead
def put (p : PP) (i : Int) (x : PS) : PP := { p with l := p.l.set i.toNat x }
def grp (g : Int) : Bool := decide (1 ≤ g) && decide (g ≤ 128)
def byt (n : Int) : Bool := decide (0 ≤ n) && decide (n ≤ maxB)
def sok (s : Int) : Bool := decide (1 ≤ s) && (decide (s ≤ 4) || decide (s = 15))
/-- The error of a path. -/
def rng (p : PP) (i : Int) : Int := if 0 ≤ i ∧ i < p.l.length then 0 else 3
def at' (p : PP) (i : Int) (v : Bool) : Int := if v then rng p i else 2
def stOf (x : PS) (g : Int) : Int := x.st.getD g.toNat 0
def newP (n t : Int) : Option PP := if 1 ≤ n ∧ n ≤ 32 ∧ 1 ≤ t ∧ t ≤ 256 then some ⟨t, List.replicate n.toNat ⟨true, 0, 0 :: List.replicate 128 1⟩⟩ else none
def setState (p : PP) (i g s : Int) : PP × Int :=
  let e := at' p i (grp g && sok s)
  if e = 0 then (put p i { get p i with st := (get p i).st.set g.toNat s }, 0) else (p, e)
def state (p : PP) (i g : Int) : Int × Int :=
  let e := at' p i (grp g)
  if e = 0 then (stOf (get p i) g, 0) else (0, e)
def turn (p : PP) (i : Int) (on : Bool) : PP × Int × Int :=
  let e := rng p i
  if e ≠ 0 then (p, 0, e) else if (get p i).on = on then (p, 0, 8) else (put p i { get p i with on := on, b := 0 }, (get p i).b, 0)
def submit (p : PP) (i n : Int) : PP × Int :=
  let e := at' p i (byt n)
  if e ≠ 0 then (p, e) else if (get p i).on = false then (p, 8) else if maxB < (get p i).b + n then (p, 7) else (put p i { get p i with b := (get p i).b + n }, 0)
def done (p : PP) (i n : Int) : PP × Int :=
  let e := at' p i (byt n)
  if e ≠ 0 then (p, e) else if (get p i).b < n then (p, 3) else if (get p i).on = false then (p, 8) else (put p i { get p i with b := (get p i).b - n }, 0)
def use (g s : Int) (x : PS) : Bool := x.on && decide (stOf x g = s)
/-- The best of the first k paths. -/
def bestN (l : List PS) (g s : Int) : Nat → Option Nat
  | 0 => none
  | k + 1 =>
    match bestN l g s k with
    | none => if use g s (l.getD k dead) then some k else none
    | some j => if use g s (l.getD k dead) && decide ((l.getD k dead).b < (l.getD j dead).b) then some k else some j
def anyN (l : List PS) (g s : Int) : Nat → Bool
  | 0 => false
  | k + 1 => anyN l g s k || use g s (l.getD k dead)
def pick (p : PP) (g : Int) : Int × Int :=
  if grp g = false then (0, 2) else
  match bestN p.l g 1 p.l.length with
  | some j => (j, 0)
  | none =>
    match bestN p.l g 2 p.l.length with
    | some j => (j, 0)
    | none => if anyN p.l g 15 p.l.length then (0, 11) else (0, 9)
def decide' (s : Sta) : Int :=
  if s.ty = 0 ∧ s.code = 0 ∧ s.more = false ∧ s.never = false then 1
  else if s.never then 4
  else if s.ty = 3 then 3
  else if s.ty = 0 ∧ (s.code = 5 ∨ s.code = 7 ∨ s.code = 8) then 3
  else if s.ty = 0 ∧ (s.code = 4 ∨ s.code = 6 ∨ s.code = 130) then 2
  else 4
def learnt (c : Int) : Option Int := if c = 1 then some 4 else if c = 2 then some 3 else if c = 3 then some 15 else none
def learn (p : PP) (i g : Int) (s : Sta) : PP × Int :=
  let e := at' p i (grp g)
  if e ≠ 0 then (p, e) else
  match (if s.ty = 3 then learnt s.code else none) with
  | some t => (put p i { get p i with st := (get p i).st.set g.toNat t }, 0)
  | none => (p, 0)
def route (p : PP) (i g : Int) (s : Sta) (tries : Int) : PP × Int × Int × Int :=
  let e := at' p i (grp g && decide (0 ≤ tries))
  if e ≠ 0 then (p, 0, 0, e) else
  let q := (learn p i g s).1
  let d := decide' s
  if d = 1 ∨ d = 4 then (q, 0, d, 0) else
  if p.tries ≤ tries then (q, 0, 4, 0) else
  if d = 2 ∧ (get q i).on = true then (q, i, 2, 0) else
  let r := pick q g
  if r.2 = 0 then (q, r.1, 3, 0) else if r.2 = 11 then (q, 0, 5, 0) else (q, 0, 4, 0)
/-- What always holds of a path. -/
def okS (x : PS) : Prop := 0 ≤ x.b ∧ x.b ≤ maxB ∧ x.st.length = 129
structure OkP (p : PP) : Prop where
  t1 : 1 ≤ p.tries
  t2 : p.tries ≤ 256
  n1 : 1 ≤ p.l.length
  n2 : p.l.length ≤ 32
  ok : ∀ x ∈ p.l, okS x
theorem get_mem {p : PP} {i : Int} (h : rng p i = 0) : get p i ∈ p.l := by
  unfold rng at h
  split at h
  · rename_i h
    have : i.toNat < p.l.length := by omega
    simp [get, List.getD_eq_getElem?_getD, this]
  · cases h
theorem at_ok {p : PP} {i : Int} {v : Bool} (h : at' p i v = 0) : v = true ∧ rng p i = 0 := by
  cases v
  · simp [at'] at h
  · exact ⟨rfl, h⟩
theorem OkP.get {p : PP} (h : OkP p) {i : Int} (hi : rng p i = 0) : okS (get p i) := h.ok _ (get_mem hi)
theorem OkP.put {p : PP} (h : OkP p) (i : Int) {x : PS} (hx : okS x) : OkP (put p i x) :=
  ⟨h.t1, h.t2, by simpa [Pa.put] using h.n1, by simpa [Pa.put] using h.n2, fun y hy => by
    rcases List.mem_or_eq_of_mem_set hy with hy | rfl
    · exact h.ok y hy
    · exact hx⟩
theorem newP_ok {n t : Int} {p : PP} (h : newP n t = some p) : OkP p ∧ p.l.length = n := by
  unfold newP at h
  split at h
  · rename_i hc
    cases h
    refine ⟨⟨hc.2.2.1, hc.2.2.2, by simp; omega, by simp; omega, fun x hx => ?_⟩, by simp; omega⟩
    rw [List.eq_of_mem_replicate hx]
    exact ⟨by simp, by simp [maxB], by simp⟩
  · cases h
theorem setState_ok {p : PP} (h : OkP p) (i g s : Int) : OkP (setState p i g s).1 := by
  unfold setState
  dsimp only
  split
  · rename_i he
    have := h.get (at_ok he).2
    exact h.put i ⟨this.1, this.2.1, by simpa using this.2.2⟩
  · exact h
theorem turn_ok {p : PP} (h : OkP p) (i : Int) (on : Bool) : OkP (turn p i on).1 := by
  unfold turn
  dsimp only
  split
  · exact h
  · rename_i he
    split
    · exact h
    · have := h.get (Decidable.not_not.1 he)
      exact h.put i ⟨by simp, by simp [maxB], this.2.2⟩
theorem submit_ok {p : PP} (h : OkP p) (i n : Int) : OkP (submit p i n).1 := by
  unfold submit
  dsimp only
  split
  · exact h
  · rename_i he
    have ha := at_ok (Decidable.not_not.1 he)
    have hn : 0 ≤ n ∧ n ≤ maxB := by have := ha.1; simpa [byt] using this
    have := h.get ha.2
    split
    · exact h
    · split
      · exact h
      · exact h.put i ⟨by have := this.1; dsimp only; omega, by dsimp only; omega, this.2.2⟩
theorem done_ok {p : PP} (h : OkP p) (i n : Int) : OkP (done p i n).1 := by
  unfold done
  dsimp only
  split
  · exact h
  · rename_i he
    have ha := at_ok (Decidable.not_not.1 he)
    have hn : 0 ≤ n ∧ n ≤ maxB := by have := ha.1; simpa [byt] using this
    have := h.get ha.2
    split
    · exact h
    · split
      · exact h
      · exact h.put i ⟨by dsimp only; omega, by have := this.2.1; dsimp only; omega, this.2.2⟩
theorem learn_ok {p : PP} (h : OkP p) (i g : Int) (s : Sta) : OkP (learn p i g s).1 := by
  unfold learn
  dsimp only
  split
  · exact h
  · rename_i he
    have := h.get (at_ok (Decidable.not_not.1 he)).2
    split
    · exact h.put i ⟨this.1, this.2.1, by simpa using this.2.2⟩
    · exact h
theorem route_ok {p : PP} (h : OkP p) (i g : Int) (s : Sta) (t : Int) : OkP (route p i g s t).1 := by
  unfold route
  dsimp only
  have := learn_ok h i g s
  repeat' split
  all_goals first | exact h | exact this
/-! ### The program's way to the best: the usable ones, then the least of these -/
def filN (l : List PS) (g s : Int) : Nat → List Nat
  | 0 => []
  | k + 1 => filN l g s k ++ (if use g s (l.getD k dead) then [k] else [])
def minN (l : List PS) (xs : List Nat) : Nat → Nat
  | 0 => xs.getD 0 0
  | k + 1 => if (l.getD (xs.getD (k + 1) 0) dead).b < (l.getD (minN l xs k) dead).b then xs.getD (k + 1) 0 else minN l xs k
theorem minN_app (l : List PS) (xs ys : List Nat) : ∀ k, k < xs.length → minN l (xs ++ ys) k = minN l xs k
  | 0, h => by simp [minN, List.getD_eq_getElem?_getD, List.getElem?_append_left h]
  | k + 1, h => by
    simp only [minN, minN_app l xs ys k (by omega), List.getD_eq_getElem?_getD, List.getElem?_append_left h]
theorem best_min (l : List PS) (g s : Int) : ∀ k, (filN l g s k = [] ∧ bestN l g s k = none) ∨ (filN l g s k ≠ [] ∧ bestN l g s k = some (minN l (filN l g s k) ((filN l g s k).length - 1)))
  | 0 => .inl ⟨rfl, rfl⟩
  | k + 1 => by
    rcases best_min l g s k with ⟨h0, h1⟩ | ⟨h0, h1⟩
    · simp only [bestN, filN, h0, h1]
      cases hu : use g s (l.getD k dead)
      · exact .inl ⟨rfl, rfl⟩
      · exact .inr ⟨by simp, rfl⟩
    · simp only [bestN, filN, h1]
      generalize filN l g s k = F at h0 ⊢
      cases hu : use g s (l.getD k dead)
      · refine .inr ⟨by simpa using h0, by simp⟩
      · have hl : 0 < F.length := List.length_pos_iff.2 h0
        have e : (F ++ [k]).length - 1 = (F.length - 1) + 1 := by simp; omega
        have e2 : (F ++ [k]).getD (F.length - 1 + 1) 0 = k := by
          rw [show F.length - 1 + 1 = F.length by omega]; simp [List.getD_eq_getElem?_getD]
        refine .inr ⟨by simp, ?_⟩
        simp only [if_true, e, minN, minN_app l F [k] (F.length - 1) (by omega), e2, Bool.true_and, decide_eq_true_eq]
        split <;> rfl
theorem any_fil (l : List PS) (g s : Int) : ∀ k, anyN l g s k = !(filN l g s k).isEmpty
  | 0 => rfl
  | k + 1 => by
    simp only [anyN, filN, any_fil l g s k]
    generalize filN l g s k = F
    cases hu : use g s (l.getD k dead)
    · simp
    · simp
theorem filN_lt (l : List PS) (g s : Int) : ∀ k, ∀ j ∈ filN l g s k, j < k
  | 0, j, h => by simp [filN] at h
  | k + 1, j, h => by
    simp only [filN, List.mem_append] at h
    rcases h with h | h
    · have := filN_lt l g s k j h; omega
    · split at h
      · simp at h; omega
      · simp at h
theorem filN_len (l : List PS) (g s : Int) : ∀ k, (filN l g s k).length ≤ k
  | 0 => by simp [filN]
  | k + 1 => by
    have := filN_len l g s k
    simp only [filN, List.length_append]
    split <;> simp <;> omega
end Pa
end Go.Proofs.Ytplhelhijjmlaaa

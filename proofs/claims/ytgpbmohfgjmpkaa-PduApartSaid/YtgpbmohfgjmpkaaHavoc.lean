/- A law for a region that draws its order and holds calls or allocations: it is walked once, in the order of the text; behind each operation that turns the world the world is forgotten but for a condition S and for what that operation says of its own result.
   Conditions: the region passes the check by the kernel; what an operation says of its result outlives the others (R). -/
import Derived.StillTail
import Derived.OrdersHeld
import Derived.Below
import Derived.Deep.Draws
import Derived.Deep.QuietTactic
namespace Go.Proofs.Ytgpbmohfgjmpkaa
namespace Hv
open Go Go.RowKit
/-- What an operation that turns the world says of its value, and of its value in the world. -/
structure Noisy where
  vv : Value → Prop
  ww : Value → World → Prop
/-- The operation gives a value with G, without panic. -/
def Gives (P : Program) (o : Oper) (a : Act) (w : World) (G : Value → World → Prop) : Prop :=
  match (execOp a.eval o).run P w with
  | .ok (.value v) w' => G v w'
  | .ok .skip w' => G undef w'
  | .ok (.enter f args) w' => Calls P f args w' fun e w'' => ∃ v, e = .returned v ∧ G v w''
  | _ => False
def Usable (D : Nat → List (List Nat)) (j i : Nat) : Prop := ∃ p ∈ D j, p.head? = some i
abbrev Facts := List (Nat × (World → Prop))
section
variable (P : Program) (ops : Array Oper) (S : World → Prop) (R : World → World → Prop) (N : Nat → Option Noisy) (D : Nat → List (List Nat)) (F : Act → World → Prop)
def Step (i : Nat) (o : Oper) (K : Facts → Act → Prop) (L : Facts) (a : Act) : Prop :=
  match N i with
  | none => ∃ v, YieldsIf P ops S o v a ∧ K L (a.put o.dst v)
  | some n => (Region.wanted o (yielded ops a.tmps) = false ∧ K L (a.put o.dst undef)) ∨
      (Region.wanted o (yielded ops a.tmps) = true ∧ (∃ v, n.vv v) ∧
        (∀ w, S w → (∀ p ∈ L, Usable D i p.1 → p.2 w) → Gives P o a w (fun v w' => S w' ∧ R w w' ∧ n.vv v ∧ n.ww v w')) ∧
        ∀ v, n.vv v → K ((i, n.ww v) :: L) (a.put o.dst v))
def HW : List Nat → Facts → Act → Prop
  | [], L, a => ∀ w, S w → (∀ p ∈ L, p.2 w) → F a w
  | i :: rest, L, a => ∃ o, ops[i]? = some o ∧ Step P ops S R N D i o (HW rest) L a
end
section
variable {P : Program} {ops : Array Oper} {S : World → Prop} {R : World → World → Prop} {N : Nat → Option Noisy} {D : Nat → List (List Nat)} {F : Act → World → Prop}
theorem Gives.mono {o : Oper} {a : Act} {w : World} {G G' : Value → World → Prop} (hg : ∀ v w', G v w' → G' v w') (h : Gives P o a w G) : Gives P o a w G' := by
  unfold Gives at *
  generalize (execOp a.eval o).run P w = r at *
  cases r with
  | ok n w' =>
    cases n <;> simp only at h ⊢
    case value v => exact hg _ _ h
    case skip => exact hg _ _ h
    case enter f args => exact h.mono fun e w'' ⟨v, he, hv⟩ => ⟨v, he, hg _ _ hv⟩
  | halt x w' => exact h
theorem Gives.put {o : Oper} {a : Act} {w : World} {G : Value → World → Prop} {d : Option Tmp} {u : Value} (hs : ∀ cs b, o.op ≠ .select cs b) (hd : ∀ t, d = some t → t ∉ o.looksAt ops) :
    Gives P o (a.put d u) w G ↔ Gives P o a w G := by
  unfold Gives
  rw [execOp_put o hs a d u hd]
theorem Gives.wp {o : Oper} {a : Act} {w : World} {G : Value → World → Prop} {K : Act → World → Prop} {Q : Exit → Act → World → Prop} (h : Gives P o a w G) (hk : ∀ v w', G v w' → K (a.put o.dst v) w') : o.wp P a w K Q := by
  unfold Gives at h
  unfold Oper.wp
  generalize (execOp a.eval o).run P w = r at *
  cases r with
  | ok n w' =>
    cases n <;> simp only at h
    case value v => exact hk _ _ h
    case skip => exact hk _ _ h
    case enter f args =>
      exact h.mono fun e w'' ⟨v, he, hv⟩ => by subst he; exact hk _ _ hv
  | halt x w' => exact h.elim
theorem YieldsIf.same {o : Oper} {v u : Value} {a : Act} {w : World} (h : YieldsIf P ops S o v a) (k : YieldsIf P ops S o u a) (hS : S w) : v = u := by
  rcases h with ⟨h1, h2⟩ | ⟨h1, rfl⟩ <;> rcases k with ⟨k1, k2⟩ | ⟨k1, rfl⟩
  · have := (h2 w hS).symm.trans (k2 w hS)
    simpa using this
  · rw [h1] at k1; cases k1
  · rw [h1] at k1; cases k1
  · rfl
theorem YieldsIf.putIff {o : Oper} {v : Value} {a : Act} {d : Option Tmp} {u : Value} (hs : ∀ cs b, o.op ≠ .select cs b) (hd : ∀ t, d = some t → t ∉ o.looksAt ops) :
    YieldsIf P ops S o v (a.put d u) ↔ YieldsIf P ops S o v a :=
  ⟨fun h => h.of_same (execOp_put o hs a d u hd).symm (wanted_put o a d u hd).symm, fun h => h.of_same (execOp_put o hs a d u hd) (wanted_put o a d u hd)⟩
theorem Step.mono {i : Nat} {o : Oper} {K K' : Facts → Act → Prop} {L L' : Facts} {a : Act} (hL : ∀ p ∈ L, p ∈ L')
    (hk : ∀ M M' a', (∀ p ∈ M, p ∈ M') → K M a' → K' M' a') (h : Step P ops S R N D i o K L a) : Step P ops S R N D i o K' L' a := by
  unfold Step at *
  split
  · rename_i hn; simp only [hn] at h
    obtain ⟨v, h1, h2⟩ := h
    exact ⟨v, h1, hk _ _ _ hL h2⟩
  · rename_i n hn; simp only [hn] at h
    rcases h with ⟨h1, h2⟩ | ⟨h1, h2, h3, h4⟩
    · exact .inl ⟨h1, hk _ _ _ hL h2⟩
    · refine .inr ⟨h1, h2, fun w hS hf => h3 w hS (fun p hp hu => hf p (hL p hp) hu), fun v hv => hk _ _ _ ?_ (h4 v hv)⟩
      intro p hp
      rcases List.mem_cons.1 hp with rfl | hp
      · exact List.mem_cons_self
      · exact List.mem_cons_of_mem _ (hL p hp)
theorem HW.mono : ∀ (rest : List Nat) {L L' : Facts} {a : Act}, (∀ p ∈ L, p ∈ L') → HW P ops S R N D F rest L a → HW P ops S R N D F rest L' a
  | [], _, _, _, hL, h => fun w hS hf => h w hS (fun p hp => hf p (hL p hp))
  | _ :: rest, _, _, _, hL, ⟨o, ho, h⟩ => ⟨o, ho, h.mono hL (fun _ _ _ hM hK => HW.mono rest hM hK)⟩
/-- An operation is drawn to the front, past another that it does not touch. -/
theorem Step.pull {i j : Nat} {oi oj : Oper} {K : Facts → Act → Prop} {L : Facts} {a : Act} {w0 : World} (hS0 : S w0)
    (hsi : ∀ cs b, oi.op ≠ .select cs b) (hsj : ∀ cs b, oj.op ≠ .select cs b) (hap : oi.apart ops oj = true) (hu : ¬ Usable D j i)
    (hK : ∀ M M' a', (∀ p ∈ M, p ∈ M') → K M a' → K M' a')
    (h : Step P ops S R N D i oi (fun M b => Step P ops S R N D j oj K M b) L a) :
    Step P ops S R N D j oj (fun M b => Step P ops S R N D i oi K M b) L a := by
  obtain ⟨h1, h2, h3⟩ := Oper.apart_spec hap
  have comm : ∀ (b : Act) (u v : Value), (b.put oi.dst u).put oj.dst v = (b.put oj.dst v).put oi.dst u := fun b u v => Act.put_comm b u v h2
  have wi : ∀ (b : Act) (v : Value), Region.wanted oi (yielded ops (b.put oj.dst v).tmps) = Region.wanted oi (yielded ops b.tmps) := fun b v => wanted_put oi b oj.dst v h3
  have wj : ∀ (b : Act) (v : Value), Region.wanted oj (yielded ops (b.put oi.dst v).tmps) = Region.wanted oj (yielded ops b.tmps) := fun b v => wanted_put oj b oi.dst v h1
  unfold Step at *
  cases hni : N i with
  | none =>
    simp only [hni] at h ⊢
    obtain ⟨vi, hyi, h⟩ := h
    cases hnj : N j with
    | none =>
      simp only [hnj] at h ⊢
      obtain ⟨vj, hyj, h⟩ := h
      exact ⟨vj, (YieldsIf.putIff hsj h1).1 hyj, vi, (YieldsIf.putIff hsi h3).2 hyi, by rw [← comm]; exact h⟩
    | some nj =>
      simp only [hnj] at h ⊢
      rcases h with ⟨hw, h⟩ | ⟨hw, he, hg, h⟩
      · exact .inl ⟨by rw [← wj a vi]; exact hw, vi, (YieldsIf.putIff hsi h3).2 hyi, by rw [← comm]; exact h⟩
      · exact .inr ⟨by rw [← wj a vi]; exact hw, he, fun w hS hf => (Gives.put hsj h1).1 (hg w hS hf), fun vj hvj => ⟨vi, (YieldsIf.putIff hsi h3).2 hyi, by rw [← comm]; exact h vj hvj⟩⟩
  | some ni =>
    simp only [hni] at h ⊢
    rcases h with ⟨hwi, h⟩ | ⟨hwi, hei, hgi, h⟩
    · cases hnj : N j with
      | none =>
        simp only [hnj] at h ⊢
        obtain ⟨vj, hyj, h⟩ := h
        exact ⟨vj, (YieldsIf.putIff hsj h1).1 hyj, .inl ⟨by rw [wi]; exact hwi, by rw [← comm]; exact h⟩⟩
      | some nj =>
        simp only [hnj] at h ⊢
        rcases h with ⟨hw, h⟩ | ⟨hw, he, hg, h⟩
        · exact .inl ⟨by rw [← wj a undef]; exact hw, .inl ⟨by rw [wi]; exact hwi, by rw [← comm]; exact h⟩⟩
        · exact .inr ⟨by rw [← wj a undef]; exact hw, he, fun w hS hf => (Gives.put hsj h1).1 (hg w hS hf), fun vj hvj => .inl ⟨by rw [wi]; exact hwi, by rw [← comm]; exact h vj hvj⟩⟩
    · obtain ⟨v0, hv0⟩ := hei
      cases hnj : N j with
      | none =>
        simp only [hnj] at h ⊢
        obtain ⟨vj, hyj, _⟩ := h v0 hv0
        have hyj' := (YieldsIf.putIff (ops := ops) hsj h1).1 hyj
        refine ⟨vj, hyj', .inr ⟨by rw [wi]; exact hwi, ⟨v0, hv0⟩, fun w hS hf => (Gives.put hsi h3).2 (hgi w hS hf), fun vi hvi => ?_⟩⟩
        obtain ⟨vj', hy', h'⟩ := h vi hvi
        have := YieldsIf.same ((YieldsIf.putIff (ops := ops) hsj h1).1 hy') hyj' hS0
        subst this
        rw [← comm]; exact h'
      | some nj =>
        simp only [hnj] at h ⊢
        rcases h v0 hv0 with ⟨hw, _⟩ | ⟨hw, he, hg, _⟩
        · have hw' : Region.wanted oj (yielded ops a.tmps) = false := by rw [← wj a v0]; exact hw
          refine .inl ⟨hw', .inr ⟨by rw [wi]; exact hwi, ⟨v0, hv0⟩, fun w hS hf => (Gives.put hsi h3).2 (hgi w hS hf), fun vi hvi => ?_⟩⟩
          rcases h vi hvi with ⟨_, h'⟩ | ⟨k, _⟩
          · rw [← comm]; exact h'
          · rw [wj, hw'] at k; cases k
        · have hw' : Region.wanted oj (yielded ops a.tmps) = true := by rw [← wj a v0]; exact hw
          refine .inr ⟨hw', he, fun w hS hf => (Gives.put hsj h1).1 (hg w hS (fun p hp hu' => ?_)), fun vj hvj => .inr ⟨by rw [wi]; exact hwi, ⟨v0, hv0⟩, fun w hS hf => (Gives.put hsi h3).2 (hgi w hS (fun p hp hu' => hf p (List.mem_cons_of_mem _ hp) hu')), fun vi hvi => ?_⟩⟩
          · rcases List.mem_cons.1 hp with rfl | hp
            · exact absurd hu' hu
            · exact hf p hp hu'
          · rcases h vi hvi with ⟨k, _⟩ | ⟨_, _, _, h'⟩
            · rw [wj, hw'] at k; cases k
            · rw [← comm]
              refine hK _ _ _ ?_ (h' vj hvj)
              intro p hp
              simp only [List.mem_cons] at hp ⊢
              rcases hp with rfl | rfl | hp
              · exact .inr (.inl rfl)
              · exact .inl rfl
              · exact .inr (.inr hp)
theorem HW.pull {w0 : World} (hS0 : S w0) (hsel : ∀ (j : Nat) (o : Oper) cs b, ops[j]? = some o → o.op ≠ .select cs b) {j : Nat} {oj : Oper} (hj : ops[j]? = some oj) :
    ∀ (rest : List Nat) {L : Facts} {a : Act}, j ∈ rest → (∀ i ∈ rest, i < j → ∀ oi, ops[i]? = some oi → oi.apart ops oj = true) → (∀ i ∈ rest, i ≠ j → ¬ Usable D j i) → rest.Pairwise (· < ·) →
      HW P ops S R N D F rest L a → Step P ops S R N D j oj (HW P ops S R N D F (rest.erase j)) L a
  | [], _, _, hm, _, _, _, _ => by cases hm
  | i :: rest, L, a, hm, hap, hu, hp, ⟨oi, hoi, h⟩ => by
    by_cases hij : i = j
    · subst hij
      have : oi = oj := Option.some.inj (hoi.symm.trans hj)
      subst this
      rw [List.erase_cons_head]
      exact h
    · have hm' : j ∈ rest := by
        rcases List.mem_cons.1 hm with rfl | hm
        · exact absurd rfl hij
        · exact hm
      have hlt : i < j := (List.pairwise_cons.1 hp).1 j hm'
      rw [List.erase_cons_tail (by simpa using hij)]
      have h1 : Step P ops S R N D i oi (fun M b => Step P ops S R N D j oj (HW P ops S R N D F (rest.erase j)) M b) L a :=
        h.mono (fun _ hp => hp) (fun M M' a' hM hK => HW.pull hS0 hsel hj rest hm' (fun k hk => hap k (List.mem_cons_of_mem _ hk)) (fun k hk => hu k (List.mem_cons_of_mem _ hk)) (List.pairwise_cons.1 hp).2 (HW.mono rest hM hK))
      have h2 := Step.pull (K := HW P ops S R N D F (rest.erase j)) hS0 (hsel i oi · · hoi) (hsel j oj · · hj) (hap i List.mem_cons_self hlt oi hoi) (hu i List.mem_cons_self hij) (fun _ _ _ hM hK => HW.mono _ hM hK) h1
      exact h2.mono (fun _ hp => hp) (fun M M' a' hM hK => ⟨oi, hoi, hK.mono hM (fun _ _ _ hM hK => HW.mono _ hM hK)⟩)
/-! ### the check, and soundness -/
def pathB (ops : Array Oper) : List Nat → Bool
  | i :: j :: rest => Region.waitsFor .any ops j i && pathB ops (j :: rest)
  | _ => true
def checkB (ops : Array Oper) (n : Nat) (D : Nat → List (List Nat)) : Bool :=
  Region.noSelect ops && decide (n ≤ ops.size) && (decide (n = ops.size) || (Region.sinkB .any ops n && Region.chainB .any ops n)) && Region.lexHead .any ops (ops.size - n) n 0 (Array.replicate ops.size false) &&
    (List.range n).all fun j => (D j).all fun p => pathB ops p && (p.getLast? == some j) && decide (2 ≤ p.length)
def canon : Nat → Nat → Array Bool → Array Bool
  | 0, _, l => l
  | f + 1, k, l => canon f (k + 1) (l.setIfInBounds k true)
theorem canon_size : ∀ (f k : Nat) (l : Array Bool), (canon f k l).size = l.size
  | 0, _, _ => rfl
  | f + 1, k, l => by rw [canon, canon_size f]; simp
theorem canon_get : ∀ (f k : Nat) (l : Array Bool) (j : Nat), (canon f k l).getD j true = if k ≤ j ∧ j < k + f then true else l.getD j true
  | 0, k, l, j => by rw [canon, if_neg (by omega)]
  | f + 1, k, l, j => by
    rw [canon, canon_get f]
    by_cases h1 : k + 1 ≤ j ∧ j < k + 1 + f
    · rw [if_pos h1, if_pos (by omega)]
    · rw [if_neg h1]
      by_cases hj : k = j
      · subst hj
        rw [if_pos (by omega)]
        rcases Nat.lt_or_ge k l.size with h | h
        · simp [h]
        · simp [h]
      · rw [getD_set_ne true hj, if_neg (by omega)]
theorem lexHead_end {g : Nat} : ∀ (f k : Nat) (l : Array Bool), Region.lexHead .any ops g f k l = true → Region.seqB .any ops g (k + f) (canon f k l) = true
  | 0, _, _, h => h
  | f + 1, k, l, h => by
    simp only [Region.lexHead, Bool.and_eq_true] at h
    rw [canon, show k + (f + 1) = k + 1 + f by omega]
    exact lexHead_end f (k + 1) _ h.2
theorem lexHead_free {g : Nat} : ∀ (f k : Nat) (l : Array Bool), Region.lexHead .any ops g f k l = true → ∀ i, k ≤ i → i < k + f → Region.free .any ops (canon (i - k) k l) i = true
  | 0, _, _, _, _, h1, h2 => by omega
  | f + 1, k, l, h, i, h1, h2 => by
    simp only [Region.lexHead, Bool.and_eq_true] at h
    by_cases hi : i = k
    · subst hi; rw [Nat.sub_self]; exact h.1.2
    · have := lexHead_free f (k + 1) _ h.2 i (by omega) (by omega)
      rw [show i - k = (i - (k + 1)) + 1 by omega, canon]
      exact this
theorem lexHead_ready {g : Nat} : ∀ (f k : Nat) (l : Array Bool), Region.lexHead .any ops g f k l = true → ∀ i, k ≤ i → i < k + f → i ∈ Region.ready .any ops (canon (i - k) k l)
  | 0, _, _, _, _, h1, h2 => by omega
  | f + 1, k, l, h, i, h1, h2 => by
    simp only [Region.lexHead, Bool.and_eq_true] at h
    by_cases hi : i = k
    · subst hi; rw [Nat.sub_self, canon]; simpa using h.1.1
    · have := lexHead_ready f (k + 1) _ h.2 i (by omega) (by omega)
      rw [show i - k = (i - (k + 1)) + 1 by omega, canon]
      exact this
theorem path_listed {n : Nat} {listed : Array Bool} (inv : HeadInv .any ops n listed) : ∀ (p : List Nat) (i j : Nat), pathB ops p = true → p.head? = some i → p.getLast? = some j → listed.getD j false = true → listed.getD i false = true
  | [], _, _, _, h, _, _ => by simp at h
  | [x], i, j, _, h1, h2, h => by
    simp at h1 h2; subst h1 h2; exact h
  | x :: y :: rest, i, j, hp, h1, h2, h => by
    simp only [pathB, Bool.and_eq_true] at hp
    simp at h1; subst h1
    have hy := path_listed inv (y :: rest) y j hp.2 rfl (by simpa using h2) h
    obtain ⟨oy, hoy, e, he, hb, hon⟩ := Region.waitsFor_spec hp.1
    have := inv.closed y oy hoy hy e he hb
    rw [hon] at this
    exact this
theorem path_ready {n : Nat} {listed : Array Bool} (inv : HeadInv .any ops n listed) {p : List Nat} {i j : Nat} (hp : pathB ops p = true) (h1 : p.head? = some i) (h2 : p.getLast? = some j) (h3 : 2 ≤ p.length)
    (hr : j ∈ Region.ready .any ops listed) : listed.getD i false = true := by
  obtain ⟨_, oj, hoj, hall⟩ := mem_ready.1 hr
  -- the last step but one is listed
  have key : ∀ (q : List Nat) (i : Nat), pathB ops q = true → q.head? = some i → q.getLast? = some j → 2 ≤ q.length → listed.getD i false = true := by
    intro q
    induction q with
    | nil => intro i _ h; simp at h
    | cons x q ih =>
      intro i hp h1 h2 h3
      match q, ih, hp, h1, h2, h3 with
      | [], _, _, _, _, h3 => simp at h3
      | [y], _, hp, h1, h2, _ =>
        simp at h1 h2; subst h1 h2
        simp only [pathB, Bool.and_eq_true] at hp
        obtain ⟨oy, hoy, e, he, hb, hon⟩ := Region.waitsFor_spec hp.1
        have : oy = oj := Option.some.inj (hoy.symm.trans hoj)
        subst this
        have := hall e he hb
        rw [hon] at this; exact this
      | y :: z :: q, ih, hp, h1, h2, _ =>
        simp at h1; subst h1
        simp only [pathB, Bool.and_eq_true] at hp
        have hy := ih y (by simp only [pathB, Bool.and_eq_true]; exact hp.2) rfl (by simpa using h2) (by simp)
        obtain ⟨oy, hoy, e, he, hb, hon⟩ := Region.waitsFor_spec hp.1
        have := inv.closed y oy hoy hy e he hb
        rw [hon] at this; exact this
  exact key p i hp h1 h2 h3
theorem sound {Q : Exit → Act → World → Prop} {n : Nat} (hB : checkB ops n D = true) (hst : ∀ i m, N i = some m → ∀ v w w', R w w' → m.ww v w → m.ww v w')
    (hF : ∀ listed a w, Region.seqB .any ops (ops.size - n) n listed = true → F a w → wpAny P .any ops Q (ops.size - n) listed a w) :
    ∀ (m : Nat) (rest : List Nat) (L : Facts) (a : Act) (w : World) (listed : Array Bool), rest.length = m → HeadInv .any ops n listed → (∀ j, j ∈ rest ↔ j < n ∧ listed.getD j true = false) → rest.Pairwise (· < ·) →
      (∀ p ∈ L, ∀ v w', R v w' → p.2 v → p.2 w') → HW P ops S R N D F rest L a → S w → (∀ p ∈ L, p.2 w) → wpAny P .any ops Q (m + (ops.size - n)) listed a w := by
  simp only [checkB, Bool.and_eq_true, decide_eq_true_eq, Bool.or_eq_true] at hB
  obtain ⟨⟨⟨⟨hsel, hn⟩, hsc⟩, hlex⟩, hD⟩ := hB
  intro m
  induction m with
  | zero =>
    intro rest L a w listed hlen inv hrest hpw _ hW hS hL
    have : rest = [] := List.eq_nil_of_length_eq_zero hlen
    subst this
    rw [Nat.zero_add]
    refine hF _ _ _ ?_ (hW w hS hL)
    have := lexHead_end (ops := ops) n 0 _ hlex
    rw [Nat.zero_add] at this
    have e : listed = canon n 0 (Array.replicate ops.size false) := by
      apply Array.ext
      · rw [inv.size, canon_size]; simp
      · intro j h1 h2
        have g1 : listed.getD j true = listed[j] := by simp [h1]
        have g2 : (canon n 0 (Array.replicate ops.size false)).getD j true = (canon n 0 (Array.replicate ops.size false))[j] := by simp [h2]
        rw [← g1, ← g2, canon_get]
        have hjs : j < ops.size := by rw [← inv.size]; exact h1
        by_cases hj : j < n
        · rw [if_pos (by omega)]
          cases h : listed.getD j true with
          | true => rfl
          | false => exact absurd ((hrest j).2 ⟨hj, h⟩) (by simp)
        · rw [if_neg (by omega)]
          rw [inv.tail j (by omega) hjs]
          simp [hjs]
    rw [e]; exact this
  | succ m ih =>
    intro rest L a w listed hlen inv hrest hpw hLst hW hS hL
    have hmem : ∃ i, i ∈ rest := by
      match rest, hlen with
      | i :: _, _ => exact ⟨i, List.mem_cons_self⟩
    have hready : ∀ j, j ∈ Region.ready .any ops listed → j < n := by
      intro j hj
      obtain ⟨i, hi⟩ := hmem
      have hi' := (hrest i).1 hi
      rcases Nat.lt_or_ge j n with h | h
      · exact h
      · obtain ⟨_, oj, hoj, _⟩ := mem_ready.1 hj
        have hjs : j < ops.size := (Array.getElem?_eq_some_iff.1 hoj).1
        rcases hsc with h0 | ⟨hs, hc⟩
        · omega
        · exact absurd hj (tail_waits hs hc (by omega) inv _ i rfl hi'.1 hi'.2 j h)
    rw [show m + 1 + (ops.size - n) = (m + (ops.size - n)) + 1 by omega]
    refine ⟨fun h0 => ?_, fun j hj => ?_⟩
    · -- the first that is not listed is ready
      exfalso
      obtain ⟨i, hi⟩ := hmem
      match rest, hrest, hpw with
      | k :: rest', hrest, hpw =>
        have hk := (hrest k).1 List.mem_cons_self
        have hall : ∀ j, j < k → listed.getD j true = true := by
          intro j hjk
          cases h : listed.getD j true with
          | true => rfl
          | false =>
            have := (hrest j).2 ⟨by omega, h⟩
            rcases List.mem_cons.1 this with rfl | h'
            · omega
            · have := (List.pairwise_cons.1 hpw).1 j h'
              omega
        have hkr : k ∈ Region.ready .any ops listed := by
          have := lexHead_ready n 0 _ hlex k (by omega) (by omega)
          rw [mem_ready] at this ⊢
          obtain ⟨_, ok, hok, hafter⟩ := this
          refine ⟨hk.2, ok, hok, fun e he hb => ?_⟩
          have h1 := hafter e he hb
          have hks : k < ops.size := (Array.getElem?_eq_some_iff.1 hok).1
          have hlt : e.on < k := by
            rcases Nat.lt_or_ge e.on k with h | h
            · exact h
            · exfalso
              have h2 := canon_get (k - 0) 0 (Array.replicate ops.size false) e.on
              rw [if_neg (by omega)] at h2
              rcases Nat.lt_or_ge e.on ops.size with h3 | h3
              · have h4 : (Array.replicate ops.size false).getD e.on true = false := by simp [h3]
                rw [h4] at h2
                rw [getD_both h2] at h1; cases h1
              · have : (canon (k - 0) 0 (Array.replicate ops.size false)).getD e.on false = false := by
                  rw [Array.getD_eq_getD_getElem?, Array.getElem?_eq_none (by rw [canon_size]; simpa using h3)]; rfl
                rw [this] at h1; cases h1
          have h5 := hall e.on hlt
          have : e.on < listed.size := by rw [inv.size]; omega
          simp [this] at h5 ⊢; exact h5
        rw [h0] at hkr; cases hkr
    · have hjn := hready j hj
      obtain ⟨hjun, oj, hoj, hjall⟩ := mem_ready.1 hj
      have hjrest : j ∈ rest := (hrest j).2 ⟨hjn, hjun⟩
      have hnw : ∀ i ∈ rest, ∀ e ∈ oj.after, Region.binds .any e = true → e.on ≠ i := by
        intro i hi e he hb heq
        have h1 := hjall e he hb
        rw [heq, getD_both ((hrest i).1 hi).2] at h1
        cases h1
      have hap : ∀ i ∈ rest, i < j → ∀ oi, ops[i]? = some oi → oi.apart ops oj = true := by
        intro i hi hij oi hoi
        have hf := lexHead_free n 0 _ hlex i (Nat.zero_le _) (by have := (hrest i).1 hi; omega)
        have hjs : j < ops.size := (Array.getElem?_eq_some_iff.1 hoj).1
        refine Region.free_spec hoi hf j oj hoj (by omega) ?_ (hnw i hi)
        rw [canon_get, if_neg (by omega)]
        simp [hjs]
      have hus : ∀ i ∈ rest, i ≠ j → ¬ Usable D j i := by
        rintro i hi _ ⟨p, hp, hh⟩
        have h1 := List.all_eq_true.1 (List.all_eq_true.1 hD j (List.mem_range.2 hjn)) p hp
        simp only [Bool.and_eq_true, beq_iff_eq, decide_eq_true_eq] at h1
        have := path_ready inv h1.1.1 hh h1.1.2 h1.2 hj
        rw [getD_both ((hrest i).1 hi).2] at this; cases this
      have hstep := HW.pull (w0 := w) hS (Region.noSelect_spec hsel) hoj rest hjrest hap hus hpw hW
      have hlen' : (rest.erase j).length = m := by rw [List.length_erase_of_mem hjrest]; omega
      have hnd : rest.Nodup := hpw.imp (fun h => Nat.ne_of_lt h)
      have hrest' : ∀ k, k ∈ rest.erase j ↔ k < n ∧ (listed.setIfInBounds j true).getD k true = false := by
        intro k
        rw [hnd.mem_erase_iff, hrest k]
        by_cases hkj : k = j
        · subst hkj
          have hks : k < listed.size := by rw [inv.size]; exact (Array.getElem?_eq_some_iff.1 hoj).1
          simp [hks]
        · rw [getD_set_ne true (fun h => hkj h.symm)]
          simp [hkj]
      have hpw' : (rest.erase j).Pairwise (· < ·) := hpw.sublist List.erase_sublist
      have inv' := inv.set hj hjn
      unfold Step at hstep
      cases hnj : N j with
      | none =>
        simp only [hnj] at hstep
        obtain ⟨v, hy, hW'⟩ := hstep
        exact hy.wpOp hoj hS (ih _ _ _ _ _ hlen' inv' hrest' hpw' hLst hW' hS hL)
      | some nj =>
        simp only [hnj] at hstep
        rcases hstep with ⟨hw, hW'⟩ | ⟨hw, _, hg, hW'⟩
        · unfold wpOp
          simp only [hoj, hw, Bool.false_eq_true, if_false]
          exact ih _ _ _ _ _ hlen' inv' hrest' hpw' hLst hW' hS hL
        · unfold wpOp
          simp only [hoj, hw, if_true]
          refine .inl ((hg w hS (fun p hp _ => hL p hp)).wp (fun v w' ⟨hS', hR, hv, hww⟩ => ?_))
          refine ih _ _ _ _ _ hlen' inv' hrest' hpw' ?_ (hW' v hv) hS' ?_
          · intro p hp
            rcases List.mem_cons.1 hp with rfl | hp
            · exact fun v1 w1 h => hst j nj hnj v v1 w1 h
            · exact hLst p hp
          · intro p hp
            rcases List.mem_cons.1 hp with rfl | hp
            · exact hww
            · exact hLst p hp w w' hR (hL p hp)
/-- THE LAW. 'n': the operations ahead of the tail, which comes last, in the order of the text, whatever order is drawn. -/
theorem region {id : Nat} {Q : Exit → Act → World → Prop} {a : Act} {w : World} {l : List Oper} (n : Nat) (S : World → Prop) (R : World → World → Prop) (N : Nat → Option Noisy) (D : Nat → List (List Nat))
    (hm : P.follows .mixedOrders = true) (hB : checkB l.toArray n D = true) (hst : ∀ i m, N i = some m → ∀ v w w', R w w' → m.ww v w → m.ww v w') (hS : S w.drew)
    (h : HW P l.toArray S R N D (fun a' w' => wpList P l.toArray Q (l.drop n) a' w') (List.range n) [] a) : (Code.region id l.toArray true).wp P Q a w := by
  have hB' := hB
  simp only [checkB, Bool.and_eq_true, decide_eq_true_eq] at hB'
  have hn := hB'.1.1.1.2
  refine wp_region_any hm ?_
  have inv0 : HeadInv .any l.toArray n (Array.replicate l.toArray.size false) :=
    ⟨by simp, fun j oj _ hl => (by rw [getD_replicate_false] at hl; cases hl), fun t _ ht => getD_in (by simpa using ht) (getD_replicate_false _ _)⟩
  have hdl : (l.drop n).length = l.toArray.size - n := by simp
  have := sound (Q := Q) hB hst (fun listed a' w' hq hF => by
    have := wpAny_of_seq (md := .any) (Q' := Q) (l.drop n) n listed a' w' (fun j => by simp [List.getElem?_drop]) (by rw [hdl]; exact hq) hF
    rwa [hdl] at this) n (List.range n) [] a w.drew (Array.replicate l.toArray.size false) (by simp) inv0
    (fun j => by
      rw [List.mem_range]
      constructor
      · intro hj; refine ⟨hj, ?_⟩
        have : j < l.toArray.size := by omega
        simp at this; simp [this]
      · exact fun h => h.1)
    List.pairwise_lt_range (fun p hp => by cases hp) h hS (fun p hp => by cases hp)
  rw [show n + (l.toArray.size - n) = l.toArray.size by omega] at this
  exact this
/-- A step that gives one value in every world with S. -/
theorem pure {i : Nat} {rest : List Nat} {L : Facts} {a : Act} {o : Oper} {v : Value} (ho : ops.toList[i]? = some o) (hN : N i = none) (hw : Region.wanted o (yielded ops a.tmps) = true)
    (hv : ∀ w, S w → (execOp a.eval o).run P w = .ok (.value v) w) (h : HW P ops S R N D F rest L (a.put o.dst v)) : HW P ops S R N D F (i :: rest) L a :=
  ⟨o, by simpa using ho, by unfold Step; simp only [hN]; exact ⟨v, .inl ⟨hw, hv⟩, h⟩⟩
/-- A step whose guard says no. -/
theorem skip {i : Nat} {rest : List Nat} {L : Facts} {a : Act} {o : Oper} (ho : ops.toList[i]? = some o) (hw : Region.wanted o (yielded ops a.tmps) = false)
    (h : HW P ops S R N D F rest L (a.put o.dst undef)) : HW P ops S R N D F (i :: rest) L a :=
  ⟨o, by simpa using ho, by
    unfold Step
    cases hn : N i with
    | none => exact ⟨undef, .inr ⟨hw, rfl⟩, h⟩
    | some n => exact .inl ⟨hw, h⟩⟩
/-- A step that turns the world. -/
theorem noisy {i : Nat} {rest : List Nat} {L : Facts} {a : Act} {o : Oper} {m : Noisy} (ho : ops.toList[i]? = some o) (hN : N i = some m) (hw : Region.wanted o (yielded ops a.tmps) = true) (hv : ∃ v, m.vv v)
    (hg : ∀ w, S w → (∀ p ∈ L, Usable D i p.1 → p.2 w) → Gives P o a w (fun v w' => S w' ∧ R w w' ∧ m.vv v ∧ m.ww v w'))
    (h : ∀ v, m.vv v → HW P ops S R N D F rest ((i, m.ww v) :: L) (a.put o.dst v)) : HW P ops S R N D F (i :: rest) L a :=
  ⟨o, by simpa using ho, by unfold Step; simp only [hN]; exact .inr ⟨hw, hv, hg, h⟩⟩
/-- The value is known. -/
def con (c : Value) : Noisy := ⟨fun v => v = c, fun _ _ => True⟩
theorem con_ex (c : Value) : ∃ v, (con c).vv v := ⟨c, rfl⟩
/-- A slice over a new block that is known whole. -/
def row (l : List Value) (t : TypeId) : Noisy :=
  ⟨fun v => ∃ b, v = .slice (some ⟨b, 0, none⟩) l.length l.length, fun v w => ∀ b n c, v = .slice (some ⟨b, 0, none⟩) n c → w.heap[b]? = some (.cells l.toArray t (0, 0))⟩
theorem row_ex (l : List Value) (t : TypeId) : ∃ v, (row l t).vv v := ⟨_, 0, rfl⟩
def Ext (w w' : World) : Prop := Below w.heap.size w w'
theorem con_st {c v : Value} {w w' : World} (_ : Ext w w') (h : (con c).ww v w) : (con c).ww v w' := h
theorem row_st {l : List Value} {t : TypeId} {v : Value} {w w' : World} (h : Ext w w') (h' : (row l t).ww v w) : (row l t).ww v w' := fun b n c hv => by
  have h1 := h' b n c hv
  have hlt : b < w.heap.size := (Array.getElem?_eq_some_iff.1 h1).1
  exact (h.block b hlt).trans h1
theorem done {L : Facts} {a : Act} (h : ∀ w, S w → (∀ p ∈ L, p.2 w) → F a w) : HW P ops S R N D F [] L a := h
@[go_sem] theorem size_drewN (w : World) (n : Nat) : (w.drewN n).heap.size = w.heap.size := rfl
theorem Ext.refl (w : World) : Ext w w := Below.refl _ _
theorem Ext.undrewN {w w1 : World} {n : Nat} (h : Ext (w.drewN n) w1) : Ext w w1 := ⟨h.os, h.tape, h.output, h.size, h.block⟩
theorem Ext.trans {a b c : World} (h : Ext a b) (k : Ext b c) : Ext a c := Below.trans h (Below.mono k h.size)
theorem Ext.alloc (w : World) (o : Obj) : Ext w (w.alloc o) := (Below.refl _ _).alloc (Nat.le_refl _) _
theorem Ext.drew (w : World) : Ext w w.drew := (Below.refl _ _).drew
theorem Ext.drewN (w : World) (n : Nat) : Ext w (w.drewN n) := ⟨rfl, rfl, rfl, Nat.le_refl _, fun _ _ => rfl⟩
theorem Ext.below {B : Nat} {w w1 w2 : World} (h : Below B w w1) (k : Ext w1 w2) (hB : B ≤ w1.heap.size) : Below B w w2 := h.trans (k.mono hB)
/-- What was there is as it was. -/
theorem Ext.cells {w w1 : World} (h : Ext w w1) : (∀ b o, b < w.heap.size → w1.cell? ⟨b, o, none⟩ = w.cell? ⟨b, o, none⟩) ∧ (∀ b o, b < w.heap.size → w1.frozen? ⟨b, o, none⟩ = w.frozen? ⟨b, o, none⟩) :=
  ⟨fun b o hb => Below.cell (p := ⟨b, o, none⟩) h hb, fun b o hb => Below.frozen (p := ⟨b, o, none⟩) h hb⟩
/-- The same region law where each operation but the tail only makes memory. -/
theorem grow {id : Nat} {Q : Exit → Act → World → Prop} {a : Act} {w : World} {l : List Oper} (n : Nat) (N : Nat → Option Noisy) (D : Nat → List (List Nat))
    (hm : P.follows .mixedOrders = true) (hB : checkB l.toArray n D = true) (hst : ∀ i m, N i = some m → ∀ v w w', Ext w w' → m.ww v w → m.ww v w')
    (h : HW P l.toArray (Ext w) Ext N D (fun a' w' => wpList P l.toArray Q (l.drop n) a' w') (List.range n) [] a) : (Code.region id l.toArray true).wp P Q a w :=
  region n (Ext w) Ext N D hm hB hst (Ext.drew w) h
theorem noise {w0 : World} {i : Nat} {rest : List Nat} {L : Facts} {a : Act} {o : Oper} {m : Noisy} (ho : ops.toList[i]? = some o) (hN : N i = some m) (hw : Region.wanted o (yielded ops a.tmps) = true) (hv : ∃ v, m.vv v)
    (hg : ∀ w, Ext w0 w → (∀ p ∈ L, Usable D i p.1 → p.2 w) → Gives P o a w (fun v w' => Ext w w' ∧ m.vv v ∧ m.ww v w'))
    (h : ∀ v, m.vv v → HW P ops (Ext w0) Ext N D F rest ((i, m.ww v) :: L) (a.put o.dst v)) : HW P ops (Ext w0) Ext N D F (i :: rest) L a :=
  noisy ho hN hw hv (fun w hS hf => (hg w hS hf).mono fun _ _ ⟨h1, h2, h3⟩ => ⟨hS.trans h1, h1, h2, h3⟩) h
theorem row_new (w : World) (l : List Value) (t : TypeId) : Ext w (w.alloc (.cells l.toArray t)) ∧ (row l t).vv (.slice (some ⟨w.heap.size, 0, none⟩) l.length l.length) ∧ (row l t).ww (.slice (some ⟨w.heap.size, 0, none⟩) l.length l.length) (w.alloc (.cells l.toArray t)) :=
  ⟨Ext.alloc _ _, ⟨_, rfl⟩, fun b n c h => by
    simp only [Value.slice.injEq, Option.some.injEq, Addr.mk.injEq] at h
    obtain ⟨⟨rfl, _⟩, _⟩ := h
    show (w.heap.push _)[w.heap.size]? = _
    simp⟩
end
end Hv
end Go.Proofs.Ytgpbmohfgjmpkaa

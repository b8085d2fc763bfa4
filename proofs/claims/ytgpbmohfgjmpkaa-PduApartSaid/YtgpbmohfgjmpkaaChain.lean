/- A law for a region that draws its order where the operations that turn or read the world stand in a chain: it is walked once, in the order of the text, world after world.
   Conditions: the chain passes a check by the kernel; the other operations give one value in every world of the kind S, and the chain's operations keep S. -/
import Derived.Test.YtgpbmohfgjmpkaaHavoc
namespace Go.Proofs.Ytgpbmohfgjmpkaa
namespace Ch
open Go Go.RowKit Hv
section
variable (P : Program) (ops : Array Oper) (S : World → Prop) (N : Nat → Bool) (F : Act → World → Prop)
def CStep (i : Nat) (o : Oper) (K : Act → World → Prop) (a : Act) (w : World) : Prop :=
  match N i with
  | false => ∃ v, YieldsIf P ops S o v a ∧ K (a.put o.dst v) w
  | true => (Region.wanted o (yielded ops a.tmps) = false ∧ K (a.put o.dst undef) w) ∨
      (Region.wanted o (yielded ops a.tmps) = true ∧ Gives P o a w (fun v w' => S w' ∧ K (a.put o.dst v) w'))
def CW : List Nat → Act → World → Prop
  | [], a, w => F a w
  | i :: rest, a, w => ∃ o, ops[i]? = some o ∧ CStep P ops S N i o (CW rest) a w
end
section
variable {P : Program} {ops : Array Oper} {S : World → Prop} {N : Nat → Bool} {F : Act → World → Prop}
theorem gives_some {o : Oper} {a : Act} {w : World} {G : Value → World → Prop} (h : Gives P o a w G) : ∃ v w', G v w' := by
  unfold Gives at h
  generalize (execOp a.eval o).run P w = r at *
  cases r with
  | ok n w' =>
    cases n <;> simp only at h
    case value v => exact ⟨_, _, h⟩
    case skip => exact ⟨_, _, h⟩
    case enter f args =>
      obtain ⟨e, w', fr, ⟨v, _, hg⟩, _⟩ := h []
      exact ⟨v, w', hg⟩
  | halt x w' => exact h.elim
theorem CStep.mono {i : Nat} {o : Oper} {K K' : Act → World → Prop} {a : Act} {w : World} (hS : S w) (hk : ∀ a' w', S w' → K a' w' → K' a' w') (h : CStep P ops S N i o K a w) : CStep P ops S N i o K' a w := by
  unfold CStep at *
  split
  · rename_i hn; simp only [hn] at h
    obtain ⟨v, h1, h2⟩ := h
    exact ⟨v, h1, hk _ _ hS h2⟩
  · rename_i hn; simp only [hn] at h
    rcases h with ⟨h1, h2⟩ | ⟨h1, h2⟩
    · exact .inl ⟨h1, hk _ _ hS h2⟩
    · exact .inr ⟨h1, h2.mono fun v w' ⟨h3, h4⟩ => ⟨h3, hk _ _ h3 h4⟩⟩
theorem CStep.pull {i j : Nat} {oi oj : Oper} {K : Act → World → Prop} {a : Act} {w : World} (hS : S w) (hsi : ∀ cs b, oi.op ≠ .select cs b) (hsj : ∀ cs b, oj.op ≠ .select cs b) (hap : oi.apart ops oj = true) (hu : ¬ (N i = true ∧ N j = true))
    (h : CStep P ops S N i oi (fun b w' => CStep P ops S N j oj K b w') a w) : CStep P ops S N j oj (fun b w' => CStep P ops S N i oi K b w') a w := by
  obtain ⟨h1, h2, h3⟩ := Oper.apart_spec hap
  have comm : ∀ (b : Act) (u v : Value), (b.put oi.dst u).put oj.dst v = (b.put oj.dst v).put oi.dst u := fun b u v => Act.put_comm b u v h2
  have wi : ∀ (b : Act) (v : Value), Region.wanted oi (yielded ops (b.put oj.dst v).tmps) = Region.wanted oi (yielded ops b.tmps) := fun b v => wanted_put oi b oj.dst v h3
  have wj : ∀ (b : Act) (v : Value), Region.wanted oj (yielded ops (b.put oi.dst v).tmps) = Region.wanted oj (yielded ops b.tmps) := fun b v => wanted_put oj b oi.dst v h1
  unfold CStep at *
  cases hni : N i with
  | false =>
    simp only [hni] at h ⊢
    obtain ⟨vi, hyi, h⟩ := h
    cases hnj : N j with
    | false =>
      simp only [hnj] at h ⊢
      obtain ⟨vj, hyj, h⟩ := h
      exact ⟨vj, (YieldsIf.putIff hsj h1).1 hyj, vi, (YieldsIf.putIff hsi h3).2 hyi, by rw [← comm]; exact h⟩
    | true =>
      simp only [hnj] at h ⊢
      rcases h with ⟨hw, h⟩ | ⟨hw, h⟩
      · exact .inl ⟨by rw [← wj a vi]; exact hw, vi, (YieldsIf.putIff hsi h3).2 hyi, by rw [← comm]; exact h⟩
      · refine .inr ⟨by rw [← wj a vi]; exact hw, ((Gives.put hsj h1).1 h).mono fun v w' ⟨h4, h5⟩ => ⟨h4, vi, (YieldsIf.putIff hsi h3).2 hyi, by rw [← comm]; exact h5⟩⟩
  | true =>
    simp only [hni] at h ⊢
    cases hnj : N j with
    | true => exact absurd ⟨hni, hnj⟩ hu
    | false =>
      simp only [hnj] at h ⊢
      rcases h with ⟨hwi, vj, hyj, h⟩ | ⟨hwi, h⟩
      · exact ⟨vj, (YieldsIf.putIff hsj h1).1 hyj, .inl ⟨by rw [wi]; exact hwi, by rw [← comm]; exact h⟩⟩
      · obtain ⟨v0, w1, hS1, vj, hyj, _⟩ := gives_some h
        have hyj' := (YieldsIf.putIff (ops := ops) hsj h1).1 hyj
        refine ⟨vj, hyj', .inr ⟨by rw [wi]; exact hwi, (Gives.put hsi h3).2 (h.mono fun v w' ⟨h4, vj', hy', h5⟩ => ⟨h4, ?_⟩)⟩⟩
        have := YieldsIf.same ((YieldsIf.putIff (ops := ops) hsj h1).1 hy') hyj' hS
        subst this
        rw [← comm]; exact h5
theorem CW.pull (hsel : ∀ (j : Nat) (o : Oper) cs b, ops[j]? = some o → o.op ≠ .select cs b) {j : Nat} {oj : Oper} (hj : ops[j]? = some oj) :
    ∀ (rest : List Nat) {a : Act} {w : World}, S w → j ∈ rest → (∀ i ∈ rest, i < j → ∀ oi, ops[i]? = some oi → oi.apart ops oj = true) → (∀ i ∈ rest, i < j → ¬ (N i = true ∧ N j = true)) → rest.Pairwise (· < ·) →
      CW P ops S N F rest a w → CStep P ops S N j oj (CW P ops S N F (rest.erase j)) a w
  | [], _, _, _, hm, _, _, _, _ => by cases hm
  | i :: rest, a, w, hS, hm, hap, hu, hp, ⟨oi, hoi, h⟩ => by
    by_cases hij : i = j
    · subst hij
      have : oi = oj := Option.some.inj (hoi.symm.trans hj)
      subst this
      rw [List.erase_cons_head]
      exact h
    · have hm' : j ∈ rest := by
        rcases List.mem_cons.1 hm with rfl | hm
        · exact absurd rfl hij
        · exact hm
      have hlt : i < j := (List.pairwise_cons.1 hp).1 j hm'
      rw [List.erase_cons_tail (by simpa using hij)]
      have h1 : CStep P ops S N i oi (fun b w' => CStep P ops S N j oj (CW P ops S N F (rest.erase j)) b w') a w :=
        h.mono hS (fun a' w' hS' hK => CW.pull hsel hj rest hS' hm' (fun k hk => hap k (List.mem_cons_of_mem _ hk)) (fun k hk => hu k (List.mem_cons_of_mem _ hk)) (List.pairwise_cons.1 hp).2 hK)
      have h2 := CStep.pull (K := CW P ops S N F (rest.erase j)) hS (hsel i oi · · hoi) (hsel j oj · · hj) (hap i List.mem_cons_self hlt oi hoi) (hu i List.mem_cons_self hlt) h1
      exact h2.mono hS (fun a' w' _ hK => ⟨oi, hoi, hK⟩)
theorem pathB_tail {x : Nat} {p : List Nat} (h : pathB ops (x :: p) = true) : pathB ops p = true := by
  cases p with
  | nil => rfl
  | cons y p => simp only [pathB, Bool.and_eq_true] at h; exact h.2
theorem pathB_right : ∀ (p q : List Nat), pathB ops (p ++ q) = true → pathB ops q = true
  | [], _, h => h
  | _ :: p, q, h => pathB_right p q (pathB_tail h)
theorem pathB_left : ∀ (p q : List Nat), pathB ops (p ++ q) = true → pathB ops p = true
  | [], _, _ => rfl
  | [_], _, _ => rfl
  | x :: y :: p, q, h => by
    simp only [List.cons_append, pathB, Bool.and_eq_true] at h ⊢
    exact ⟨h.1, pathB_left (y :: p) q h.2⟩
def checkC (ops : Array Oper) (n : Nat) (N : Nat → Bool) (C : List Nat) : Bool :=
  Region.noSelect ops && decide (n ≤ ops.size) && (decide (n = ops.size) || (Region.sinkB .any ops n && Region.chainB .any ops n)) && Region.lexHead .any ops (ops.size - n) n 0 (Array.replicate ops.size false) &&
    pathB ops C && (C.zip (C.drop 1)).all (fun p => decide (p.1 < p.2)) && (List.range n).all fun j => !N j || C.contains j
theorem inc_of_zip : ∀ (C : List Nat), (C.zip (C.drop 1)).all (fun p => decide (p.1 < p.2)) = true → C.Pairwise (· < ·)
  | [], _ => List.Pairwise.nil
  | [x], _ => by simp
  | x :: y :: r, h => by
    simp only [List.drop_succ_cons, List.drop_zero, List.zip_cons_cons, List.all_cons, Bool.and_eq_true, decide_eq_true_eq] at h
    have ih := inc_of_zip (y :: r) (by simpa using h.2)
    refine List.pairwise_cons.2 ⟨fun z hz => ?_, ih⟩
    rcases List.mem_cons.1 hz with rfl | hz
    · exact h.1
    · have := (List.pairwise_cons.1 ih).1 z hz; omega
theorem chain_ready {n : Nat} {listed : Array Bool} {C : List Nat} (inv : HeadInv .any ops n listed) (hp : pathB ops C = true) (hC : C.Pairwise (· < ·)) {i j : Nat} (hi : i ∈ C) (hj : j ∈ C) (hij : i < j) (hr : j ∈ Region.ready .any ops listed) : listed.getD i false = true := by
  obtain ⟨p1, p2, rfl⟩ := List.append_of_mem hj
  have hi1 : i ∈ p1 := by
    rcases List.mem_append.1 hi with h | h
    · exact h
    · rcases List.mem_cons.1 h with rfl | h
      · omega
      · have := (List.pairwise_append.1 hC).2.1
        have := (List.pairwise_cons.1 this).1 i h
        omega
  obtain ⟨q1, q2, rfl⟩ := List.append_of_mem hi1
  have h1 : pathB ops (q1 ++ (i :: (q2 ++ [j]))) = true := by
    refine pathB_left _ p2 ?_
    simpa using hp
  have h2 := pathB_right q1 _ h1
  exact path_ready inv h2 rfl (by simp [List.getLast?_cons, List.getLast?_append]) (by simp) hr
theorem soundC {Q : Exit → Act → World → Prop} {n : Nat} {C : List Nat} (hB : checkC ops n N C = true)
    (hF : ∀ listed a w, Region.seqB .any ops (ops.size - n) n listed = true → F a w → wpAny P .any ops Q (ops.size - n) listed a w) :
    ∀ (m : Nat) (rest : List Nat) (a : Act) (w : World) (listed : Array Bool), rest.length = m → HeadInv .any ops n listed → (∀ j, j ∈ rest ↔ j < n ∧ listed.getD j true = false) → rest.Pairwise (· < ·) →
      CW P ops S N F rest a w → S w → wpAny P .any ops Q (m + (ops.size - n)) listed a w := by
  simp only [checkC, Bool.and_eq_true, decide_eq_true_eq, Bool.or_eq_true] at hB
  obtain ⟨⟨⟨⟨⟨⟨hsel, hn⟩, hsc⟩, hlex⟩, hC1⟩, hC2⟩, hC3⟩ := hB
  have hC2' := inc_of_zip C hC2
  intro m
  induction m with
  | zero =>
    intro rest a w listed hlen inv hrest hpw hW hS
    have : rest = [] := List.eq_nil_of_length_eq_zero hlen
    subst this
    rw [Nat.zero_add]
    refine hF _ _ _ ?_ hW
    have := lexHead_end (ops := ops) n 0 _ hlex
    rw [Nat.zero_add] at this
    have e : listed = canon n 0 (Array.replicate ops.size false) := by
      apply Array.ext
      · rw [inv.size, canon_size]; simp
      · intro j h1 h2
        have g1 : listed.getD j true = listed[j] := by simp [h1]
        have g2 : (canon n 0 (Array.replicate ops.size false)).getD j true = (canon n 0 (Array.replicate ops.size false))[j] := by simp [h2]
        rw [← g1, ← g2, canon_get]
        have hjs : j < ops.size := by rw [← inv.size]; exact h1
        by_cases hj : j < n
        · rw [if_pos (by omega)]
          cases h : listed.getD j true with
          | true => rfl
          | false => exact absurd ((hrest j).2 ⟨hj, h⟩) (by simp)
        · rw [if_neg (by omega)]
          rw [inv.tail j (by omega) hjs]
          simp [hjs]
    rw [e]; exact this
  | succ m ih =>
    intro rest a w listed hlen inv hrest hpw hW hS
    have hmem : ∃ i, i ∈ rest := by
      match rest, hlen with
      | i :: _, _ => exact ⟨i, List.mem_cons_self⟩
    have hready : ∀ j, j ∈ Region.ready .any ops listed → j < n := by
      intro j hj
      obtain ⟨i, hi⟩ := hmem
      have hi' := (hrest i).1 hi
      rcases Nat.lt_or_ge j n with h | h
      · exact h
      · obtain ⟨_, oj, hoj, _⟩ := mem_ready.1 hj
        have hjs : j < ops.size := (Array.getElem?_eq_some_iff.1 hoj).1
        rcases hsc with h0 | ⟨hs, hc⟩
        · omega
        · exact absurd hj (tail_waits hs hc (by omega) inv _ i rfl hi'.1 hi'.2 j h)
    rw [show m + 1 + (ops.size - n) = (m + (ops.size - n)) + 1 by omega]
    refine ⟨fun h0 => ?_, fun j hj => ?_⟩
    · exfalso
      obtain ⟨i, hi⟩ := hmem
      match rest, hrest, hpw with
      | k :: rest', hrest, hpw =>
        have hk := (hrest k).1 List.mem_cons_self
        have hall : ∀ j, j < k → listed.getD j true = true := by
          intro j hjk
          cases h : listed.getD j true with
          | true => rfl
          | false =>
            have := (hrest j).2 ⟨by omega, h⟩
            rcases List.mem_cons.1 this with rfl | h'
            · omega
            · have := (List.pairwise_cons.1 hpw).1 j h'
              omega
        have hkr : k ∈ Region.ready .any ops listed := by
          have := lexHead_ready n 0 _ hlex k (by omega) (by omega)
          rw [mem_ready] at this ⊢
          obtain ⟨_, ok, hok, hafter⟩ := this
          refine ⟨hk.2, ok, hok, fun e he hb => ?_⟩
          have h1 := hafter e he hb
          have hks : k < ops.size := (Array.getElem?_eq_some_iff.1 hok).1
          have hlt : e.on < k := by
            rcases Nat.lt_or_ge e.on k with h | h
            · exact h
            · exfalso
              have h2 := canon_get (k - 0) 0 (Array.replicate ops.size false) e.on
              rw [if_neg (by omega)] at h2
              rcases Nat.lt_or_ge e.on ops.size with h3 | h3
              · have h4 : (Array.replicate ops.size false).getD e.on true = false := by simp [h3]
                rw [h4] at h2
                rw [getD_both h2] at h1; cases h1
              · have : (canon (k - 0) 0 (Array.replicate ops.size false)).getD e.on false = false := by
                  rw [Array.getD_eq_getD_getElem?, Array.getElem?_eq_none (by rw [canon_size]; simpa using h3)]; rfl
                rw [this] at h1; cases h1
          have h5 := hall e.on hlt
          have : e.on < listed.size := by rw [inv.size]; omega
          simp [this] at h5 ⊢; exact h5
        rw [h0] at hkr; cases hkr
    · have hjn := hready j hj
      obtain ⟨hjun, oj, hoj, hjall⟩ := mem_ready.1 hj
      have hjrest : j ∈ rest := (hrest j).2 ⟨hjn, hjun⟩
      have hnw : ∀ i ∈ rest, ∀ e ∈ oj.after, Region.binds .any e = true → e.on ≠ i := by
        intro i hi e he hb heq
        have h1 := hjall e he hb
        rw [heq, getD_both ((hrest i).1 hi).2] at h1
        cases h1
      have hap : ∀ i ∈ rest, i < j → ∀ oi, ops[i]? = some oi → oi.apart ops oj = true := by
        intro i hi hij oi hoi
        have hf := lexHead_free n 0 _ hlex i (Nat.zero_le _) (by have := (hrest i).1 hi; omega)
        have hjs : j < ops.size := (Array.getElem?_eq_some_iff.1 hoj).1
        refine Region.free_spec hoi hf j oj hoj (by omega) ?_ (hnw i hi)
        rw [canon_get, if_neg (by omega)]
        simp [hjs]
      have inC : ∀ i, i < n → N i = true → i ∈ C := by
        intro i hi hN
        have := List.all_eq_true.1 hC3 i (List.mem_range.2 hi)
        simpa [hN] using this
      have hus : ∀ i ∈ rest, i < j → ¬ (N i = true ∧ N j = true) := by
        rintro i hi hij ⟨hNi, hNj⟩
        have hi' := (hrest i).1 hi
        have := chain_ready inv hC1 hC2' (inC i hi'.1 hNi) (inC j hjn hNj) hij hj
        rw [getD_both hi'.2] at this; cases this
      have hstep := CW.pull (Region.noSelect_spec hsel) hoj rest hS hjrest hap hus hpw hW
      have hlen' : (rest.erase j).length = m := by rw [List.length_erase_of_mem hjrest]; omega
      have hnd : rest.Nodup := hpw.imp (fun h => Nat.ne_of_lt h)
      have hrest' : ∀ k, k ∈ rest.erase j ↔ k < n ∧ (listed.setIfInBounds j true).getD k true = false := by
        intro k
        rw [hnd.mem_erase_iff, hrest k]
        by_cases hkj : k = j
        · subst hkj
          have hks : k < listed.size := by rw [inv.size]; exact (Array.getElem?_eq_some_iff.1 hoj).1
          simp [hks]
        · rw [getD_set_ne true (fun h => hkj h.symm)]
          simp [hkj]
      have hpw' : (rest.erase j).Pairwise (· < ·) := hpw.sublist List.erase_sublist
      have inv' := inv.set hj hjn
      unfold CStep at hstep
      cases hnj : N j with
      | false =>
        simp only [hnj] at hstep
        obtain ⟨v, hy, hW'⟩ := hstep
        exact hy.wpOp hoj hS (ih _ _ _ _ hlen' inv' hrest' hpw' hW' hS)
      | true =>
        simp only [hnj] at hstep
        rcases hstep with ⟨hw, hW'⟩ | ⟨hw, hg⟩
        · unfold wpOp
          simp only [hoj, hw, Bool.false_eq_true, if_false]
          exact ih _ _ _ _ hlen' inv' hrest' hpw' hW' hS
        · unfold wpOp
          simp only [hoj, hw, if_true]
          exact .inl (hg.wp fun v w' ⟨hS', hW'⟩ => ih _ _ _ _ hlen' inv' hrest' hpw' hW' hS')
/-- THE LAW. -/
theorem region {id : Nat} {Q : Exit → Act → World → Prop} {a : Act} {w : World} {l : List Oper} (n : Nat) (S : World → Prop) (N : Nat → Bool) (C : List Nat)
    (hm : P.follows .mixedOrders = true) (hB : checkC l.toArray n N C = true) (hS : S w.drew)
    (h : CW P l.toArray S N (fun a' w' => wpList P l.toArray Q (l.drop n) a' w') (List.range n) a w.drew) : (Code.region id l.toArray true).wp P Q a w := by
  have hB' := hB
  simp only [checkC, Bool.and_eq_true, decide_eq_true_eq] at hB'
  have hn := hB'.1.1.1.1.1.2
  refine wp_region_any hm ?_
  have inv0 : HeadInv .any l.toArray n (Array.replicate l.toArray.size false) :=
    ⟨by simp, fun j oj _ hl => (by rw [getD_replicate_false] at hl; cases hl), fun t _ ht => getD_in (by simpa using ht) (getD_replicate_false _ _)⟩
  have hdl : (l.drop n).length = l.toArray.size - n := by simp
  have := soundC (Q := Q) hB (fun listed a' w' hq hF => by
    have := wpAny_of_seq (md := .any) (Q' := Q) (l.drop n) n listed a' w' (fun j => by simp [List.getElem?_drop]) (by rw [hdl]; exact hq) hF
    rwa [hdl] at this) n (List.range n) a w.drew (Array.replicate l.toArray.size false) (by simp) inv0
    (fun j => by
      rw [List.mem_range]
      constructor
      · intro hj; refine ⟨hj, ?_⟩
        have : j < l.toArray.size := by omega
        simp at this; simp [this]
      · exact fun h => h.1)
    List.pairwise_lt_range h hS
  rw [show n + (l.toArray.size - n) = l.toArray.size by omega] at this
  exact this
/-- A chain through the operations of N, found. -/
def pathTo (ops : Array Oper) : Nat → Nat → Nat → Option (List Nat)
  | 0, _, _ => none
  | f + 1, i, j => if i == j then some [j] else ((List.range j).reverse.filter fun k => decide (i ≤ k) && Region.waitsFor .any ops j k).findSome? fun k => (pathTo ops f i k).map (· ++ [j])
def chainFrom (ops : Array Oper) (n : Nat) : Nat → List Nat → List Nat
  | _, [] => []
  | i, j :: r => ((pathTo ops n i j).getD []).drop 1 ++ chainFrom ops n j r
def chainOf (ops : Array Oper) (n : Nat) (N : Nat → Bool) : List Nat :=
  match (List.range n).filter N with
  | [] => []
  | i :: r => i :: chainFrom ops n i r
theorem region' {id : Nat} {Q : Exit → Act → World → Prop} {a : Act} {w : World} {l : List Oper} (n : Nat) (S : World → Prop) (N : Nat → Bool)
    (hm : P.follows .mixedOrders = true) (hB : checkC l.toArray n N (chainOf l.toArray n N) = true) (hS : S w.drew)
    (h : CW P l.toArray S N (fun a' w' => wpList P l.toArray Q (l.drop n) a' w') (List.range n) a w.drew) : (Code.region id l.toArray true).wp P Q a w := region n S N _ hm hB hS h
/-- A quiet operation of the chain law. -/
theorem pure {i : Nat} {rest : List Nat} {a : Act} {w : World} {o : Oper} {v : Value} (ho : ops.toList[i]? = some o) (hN : N i = false) (hw : Region.wanted o (yielded ops a.tmps) = true)
    (hv : ∀ w, S w → (execOp a.eval o).run P w = .ok (.value v) w) (h : CW P ops S N F rest (a.put o.dst v) w) : CW P ops S N F (i :: rest) a w :=
  ⟨o, by simpa using ho, by unfold CStep; simp only [hN]; exact ⟨v, .inl ⟨hw, hv⟩, h⟩⟩
theorem skip {i : Nat} {rest : List Nat} {a : Act} {w : World} {o : Oper} (ho : ops.toList[i]? = some o) (hw : Region.wanted o (yielded ops a.tmps) = false)
    (h : CW P ops S N F rest (a.put o.dst undef) w) : CW P ops S N F (i :: rest) a w :=
  ⟨o, by simpa using ho, by
    unfold CStep
    cases hn : N i with
    | false => exact ⟨undef, .inr ⟨hw, rfl⟩, h⟩
    | true => exact .inl ⟨hw, h⟩⟩
theorem done {a : Act} {w : World} (h : F a w) : CW P ops S N F [] a w := h
theorem noise {i : Nat} {rest : List Nat} {a : Act} {w : World} {o : Oper} (ho : ops.toList[i]? = some o) (hN : N i = true) (hw : Region.wanted o (yielded ops a.tmps) = true)
    (h : Gives P o a w (fun v w' => S w' ∧ CW P ops S N F rest (a.put o.dst v) w')) : CW P ops S N F (i :: rest) a w :=
  ⟨o, by simpa using ho, by unfold CStep; simp only [hN]; exact .inr ⟨hw, h⟩⟩
end
end Ch
end Go.Proofs.Ytgpbmohfgjmpkaa

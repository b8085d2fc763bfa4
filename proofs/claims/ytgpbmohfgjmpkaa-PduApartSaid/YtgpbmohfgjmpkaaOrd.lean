/- A law for a region that draws its order: quiet operations once, in an order of one's choice; where no quiet one is ready, each of the others that is ready, world after world.
   Conditions: a check by the kernel; the quiet operations give one value in every world of the kind S, and the others keep S. -/
import Derived.Test.YtgpbmohfgjmpkaaChain
namespace Go.Proofs.Ytgpbmohfgjmpkaa
namespace Or
open Go Go.RowKit Hv Ch
/-- Nothing that j waits for is left. -/
def rdy (ops : Array Oper) (rest : List Nat) (j : Nat) : Bool := rest.all fun i => !Region.waitsFor .any ops j i
section
variable (P : Program) (ops : Array Oper) (S : World → Prop) (N : Nat → Bool) (F : Act → World → Prop)
def AW : Nat → List Nat → Act → World → Prop
  | 0, rest, a, w => rest = [] ∧ F a w
  | n + 1, rest, a, w =>
    (∃ q ∈ rest, N q = false ∧ rdy ops rest q = true ∧ ∃ o, ops[q]? = some o ∧ ∃ v, YieldsIf P ops S o v a ∧ AW n (rest.erase q) (a.put o.dst v) w) ∨
    ((rest.all fun q => N q || !rdy ops rest q) = true ∧ ∀ j ∈ rest, rdy ops rest j = true → ∃ o, ops[j]? = some o ∧
      ((Region.wanted o (yielded ops a.tmps) = false ∧ AW n (rest.erase j) (a.put o.dst undef) w) ∨
       (Region.wanted o (yielded ops a.tmps) = true ∧ Gives P o a w (fun v w' => S w' ∧ AW n (rest.erase j) (a.put o.dst v) w'))))
end
section
variable {P : Program} {ops : Array Oper} {S : World → Prop} {N : Nat → Bool} {F : Act → World → Prop}
def Ap (ops : Array Oper) (x y : Oper) : Prop := (∀ d, x.dst = some d → d ∉ y.looksAt ops) ∧ (∀ d, x.dst = some d → y.dst ≠ some d) ∧ (∀ d, y.dst = some d → d ∉ x.looksAt ops)
theorem lt_erase {rest : List Nat} {b q : Nat} (h : ∀ x ∈ rest, x < b) : ∀ x ∈ rest.erase q, x < b := fun x hx => h x (List.mem_of_mem_erase hx)
theorem rdy_erase {rest : List Nat} {q j : Nat} (h : rdy ops rest j = true) : rdy ops (rest.erase q) j = true := by
  unfold rdy at *
  rw [List.all_eq_true] at *
  exact fun i hi => h i (List.mem_of_mem_erase hi)
/-- A quiet operation that is ready is drawn to the front. -/
theorem AW.pullq {b : Nat} (hap : ∀ i j, i ≠ j → ∀ rest : List Nat, (∀ x ∈ rest, x < b) → i ∈ rest → j ∈ rest → rdy ops rest i = true → rdy ops rest j = true → ∀ oi oj, ops[i]? = some oi → ops[j]? = some oj → Ap ops oi oj) (hsel : ∀ (j : Nat) (o : Oper) cs b, ops[j]? = some o → o.op ≠ .select cs b) {j : Nat} {oj : Oper} (hj : ops[j]? = some oj) (hN : N j = false) :
    ∀ (n : Nat) (rest : List Nat) {a : Act} {w : World}, (∀ x ∈ rest, x < b) → S w → j ∈ rest → rdy ops rest j = true → AW P ops S N F (n + 1) rest a w → ∃ v, YieldsIf P ops S oj v a ∧ AW P ops S N F n (rest.erase j) (a.put oj.dst v) w := by
  intro n
  induction n with
  | zero =>
    intro rest a w hb0 hS hm hr h
    rcases h with ⟨q, hq, hNq, hrq, o, ho, v, hy, hre, hF⟩ | ⟨hall, _⟩
    · have : rest = [q] := by
        have hl : (rest.erase q).length = 0 := by rw [hre]; rfl
        rw [List.length_erase_of_mem hq] at hl
        match rest, hq, hl with
        | [x], hq, _ => simp at hq; rw [hq]
        | [], hq, _ => cases hq
        | _ :: _ :: _, _, hl => simp at hl
      subst this
      have : j = q := by simpa using hm
      subst this
      have := Option.some.inj (ho.symm.trans hj); subst this
      exact ⟨v, hy, hre, hF⟩
    · have := List.all_eq_true.1 hall j hm
      simp [hN, hr] at this
  | succ n ih =>
    intro rest a w hb0 hS hm hr h
    rcases h with ⟨q, hq, hNq, hrq, o, ho, v, hy, hW⟩ | ⟨hall, _⟩
    · by_cases hqj : q = j
      · subst hqj
        have := Option.some.inj (ho.symm.trans hj); subst this
        exact ⟨v, hy, hW⟩
      · have hm' : j ∈ rest.erase q := (List.mem_erase_of_ne (fun e => hqj e.symm)).2 hm
        obtain ⟨vj, hyj, hW'⟩ := ih (rest.erase q) (lt_erase hb0) hS hm' (rdy_erase hr) hW
        have hapqj := hap q j hqj rest hb0 hq hm hrq hr o oj ho hj
        obtain ⟨h1, h2, h3⟩ := hapqj
        refine ⟨vj, (YieldsIf.putIff (hsel j oj · · hj) h1).1 hyj, .inl ⟨q, (List.mem_erase_of_ne hqj).2 hq, hNq, rdy_erase hrq, o, ho, v, (YieldsIf.putIff (hsel q o · · ho) h3).2 hy, ?_⟩⟩
        rw [← Act.put_comm a v vj h2, List.erase_comm]
        exact hW'
    · have := List.all_eq_true.1 hall j hm
      simp [hN, hr] at this
/-- Another operation that is ready is drawn to the front. -/
theorem AW.pulln {b : Nat} (hap : ∀ i j, i ≠ j → ∀ rest : List Nat, (∀ x ∈ rest, x < b) → i ∈ rest → j ∈ rest → rdy ops rest i = true → rdy ops rest j = true → ∀ oi oj, ops[i]? = some oi → ops[j]? = some oj → Ap ops oi oj) (hsel : ∀ (j : Nat) (o : Oper) cs b, ops[j]? = some o → o.op ≠ .select cs b) {j : Nat} {oj : Oper} (hj : ops[j]? = some oj) (hN : N j = true) :
    ∀ (n : Nat) (rest : List Nat) {a : Act} {w : World}, (∀ x ∈ rest, x < b) → S w → j ∈ rest → rdy ops rest j = true → AW P ops S N F (n + 1) rest a w →
      (Region.wanted oj (yielded ops a.tmps) = false ∧ AW P ops S N F n (rest.erase j) (a.put oj.dst undef) w) ∨ (Region.wanted oj (yielded ops a.tmps) = true ∧ Gives P oj a w (fun v w' => S w' ∧ AW P ops S N F n (rest.erase j) (a.put oj.dst v) w')) := by
  intro n
  induction n with
  | zero =>
    intro rest a w hb0 hS hm hr h
    rcases h with ⟨q, hq, hNq, hrq, o, ho, v, hy, hre, hF⟩ | ⟨hall, hb⟩
    · exfalso
      have hl : (rest.erase q).length = 0 := by rw [hre]; rfl
      have hqj : q ≠ j := by rintro rfl; rw [hN] at hNq; cases hNq
      have : j ∈ rest.erase q := (List.mem_erase_of_ne (fun e => hqj e.symm)).2 hm
      rw [hre] at this; cases this
    · obtain ⟨o, ho, h⟩ := hb j hm hr
      have := Option.some.inj (ho.symm.trans hj); subst this
      exact h
  | succ n ih =>
    intro rest a w hb0 hS hm hr h
    rcases h with ⟨q, hq, hNq, hrq, o, ho, v, hy, hW⟩ | ⟨hall, hb⟩
    · have hqj : q ≠ j := by rintro rfl; rw [hN] at hNq; cases hNq
      have hm' : j ∈ rest.erase q := (List.mem_erase_of_ne (fun e => hqj e.symm)).2 hm
      have hapqj := hap q j hqj rest hb0 hq hm hrq hr o oj ho hj
      obtain ⟨h1, h2, h3⟩ := hapqj
      have wj : Region.wanted oj (yielded ops (a.put o.dst v).tmps) = Region.wanted oj (yielded ops a.tmps) := wanted_put oj a o.dst v h1
      have back : ∀ {u : Value} {w' : World}, AW P ops S N F n ((rest.erase q).erase j) ((a.put o.dst v).put oj.dst u) w' → AW P ops S N F (n + 1) (rest.erase j) (a.put oj.dst u) w' := fun {u w'} hX => by
        refine .inl ⟨q, (List.mem_erase_of_ne hqj).2 hq, hNq, rdy_erase hrq, o, ho, v, (YieldsIf.putIff (hsel q o · · ho) h3).2 hy, ?_⟩
        rw [← Act.put_comm a v u h2, List.erase_comm]
        exact hX
      rcases ih (rest.erase q) (lt_erase hb0) hS hm' (rdy_erase hr) hW with ⟨hw, hX⟩ | ⟨hw, hX⟩
      · exact .inl ⟨by rw [← wj]; exact hw, back hX⟩
      · exact .inr ⟨by rw [← wj]; exact hw, ((Gives.put (hsel j oj · · hj) h1).1 hX).mono fun u w' ⟨h4, h5⟩ => ⟨h4, back h5⟩⟩
    · obtain ⟨o, ho, h⟩ := hb j hm hr
      have := Option.some.inj (ho.symm.trans hj); subst this
      exact h
def checkO (ops : Array Oper) (n : Nat) : Bool :=
  Region.noSelect ops && decide (n ≤ ops.size) && (decide (n = ops.size) || (Region.sinkB .any ops n && Region.chainB .any ops n)) && Region.lexHead .any ops (ops.size - n) n 0 (Array.replicate ops.size false)
theorem soundO {Q : Exit → Act → World → Prop} {n : Nat} (hB : checkO ops n = true)
    (hF : ∀ listed a w, Region.seqB .any ops (ops.size - n) n listed = true → F a w → wpAny P .any ops Q (ops.size - n) listed a w) :
    ∀ (m : Nat) (rest : List Nat) (a : Act) (w : World) (listed : Array Bool), rest.length = m → HeadInv .any ops n listed → (∀ j, j ∈ rest ↔ j < n ∧ listed.getD j true = false) → rest.Pairwise (· < ·) →
      AW P ops S N F m rest a w → S w → wpAny P .any ops Q (m + (ops.size - n)) listed a w := by
  simp only [checkO, Bool.and_eq_true, decide_eq_true_eq, Bool.or_eq_true] at hB
  obtain ⟨⟨⟨hsel, hn⟩, hsc⟩, hlex⟩ := hB
  have hap0 : ∀ i j, i < j → ∀ rest : List Nat, i ∈ rest → rdy ops rest j = true → i < n → ∀ oi oj, ops[i]? = some oi → ops[j]? = some oj → oi.apart ops oj = true := by
    intro i j hij rest hi hr hin oi oj hoi hoj
    have hf := lexHead_free n 0 _ hlex i (Nat.zero_le _) (by omega)
    have hjs : j < ops.size := (Array.getElem?_eq_some_iff.1 hoj).1
    refine Region.free_spec hoi hf j oj hoj (by omega) ?_ ?_
    · rw [canon_get, if_neg (by omega)]
      simp [hjs]
    · intro e he hb heq
      have h1 := List.all_eq_true.1 hr i hi
      have h2 : Region.waitsFor .any ops j i = true := by
        unfold Region.waitsFor
        rw [hoj]
        simp only [Array.any_eq_true']
        exact ⟨e, he, by simp [hb, heq]⟩
      simp [h2] at h1
  have hap : ∀ i j, i ≠ j → ∀ rest : List Nat, (∀ x ∈ rest, x < n) → i ∈ rest → j ∈ rest → rdy ops rest i = true → rdy ops rest j = true → ∀ oi oj, ops[i]? = some oi → ops[j]? = some oj → Ap ops oi oj := by
    intro i k hik r hr hi hk hri hrk oi ok hoi hok
    rcases Nat.lt_or_gt_of_ne hik with h | h
    · exact Oper.apart_spec (hap0 i k h r hi hrk (hr i hi) oi ok hoi hok)
    · obtain ⟨h1, h2, h3⟩ := Oper.apart_spec (hap0 k i h r hk hri (hr k hk) ok oi hok hoi)
      exact ⟨h3, fun d hd e => h2 d e hd, h1⟩
  intro m
  induction m with
  | zero =>
    intro rest a w listed hlen inv hrest hpw hW hS
    have : rest = [] := List.eq_nil_of_length_eq_zero hlen
    subst this
    rw [Nat.zero_add]
    refine hF _ _ _ ?_ hW.2
    have := lexHead_end (ops := ops) n 0 _ hlex
    rw [Nat.zero_add] at this
    have e : listed = canon n 0 (Array.replicate ops.size false) := by
      apply Array.ext
      · rw [inv.size, canon_size]; simp
      · intro j h1 h2
        have g1 : listed.getD j true = listed[j] := by simp [h1]
        have g2 : (canon n 0 (Array.replicate ops.size false)).getD j true = (canon n 0 (Array.replicate ops.size false))[j] := by simp [h2]
        rw [← g1, ← g2, canon_get]
        have hjs : j < ops.size := by rw [← inv.size]; exact h1
        by_cases hj : j < n
        · rw [if_pos (by omega)]
          cases h : listed.getD j true with
          | true => rfl
          | false => exact absurd ((hrest j).2 ⟨hj, h⟩) (by simp)
        · rw [if_neg (by omega)]
          rw [inv.tail j (by omega) hjs]
          simp [hjs]
    rw [e]; exact this
  | succ m ih =>
    intro rest a w listed hlen inv hrest hpw hW hS
    have hmem : ∃ i, i ∈ rest := by
      match rest, hlen with
      | i :: _, _ => exact ⟨i, List.mem_cons_self⟩
    have hready : ∀ j, j ∈ Region.ready .any ops listed → j < n := by
      intro j hj
      obtain ⟨i, hi⟩ := hmem
      have hi' := (hrest i).1 hi
      rcases Nat.lt_or_ge j n with h | h
      · exact h
      · obtain ⟨_, oj, hoj, _⟩ := mem_ready.1 hj
        have hjs : j < ops.size := (Array.getElem?_eq_some_iff.1 hoj).1
        rcases hsc with h0 | ⟨hs, hc⟩
        · omega
        · exact absurd hj (tail_waits hs hc (by omega) inv _ i rfl hi'.1 hi'.2 j h)
    rw [show m + 1 + (ops.size - n) = (m + (ops.size - n)) + 1 by omega]
    refine ⟨fun h0 => ?_, fun j hj => ?_⟩
    · exfalso
      obtain ⟨i, hi⟩ := hmem
      match rest, hrest, hpw with
      | k :: rest', hrest, hpw =>
        have hk := (hrest k).1 List.mem_cons_self
        have hall : ∀ j, j < k → listed.getD j true = true := by
          intro j hjk
          cases h : listed.getD j true with
          | true => rfl
          | false =>
            have := (hrest j).2 ⟨by omega, h⟩
            rcases List.mem_cons.1 this with rfl | h'
            · omega
            · have := (List.pairwise_cons.1 hpw).1 j h'
              omega
        have hkr : k ∈ Region.ready .any ops listed := by
          have := lexHead_ready n 0 _ hlex k (by omega) (by omega)
          rw [mem_ready] at this ⊢
          obtain ⟨_, ok, hok, hafter⟩ := this
          refine ⟨hk.2, ok, hok, fun e he hb => ?_⟩
          have h1 := hafter e he hb
          have hks : k < ops.size := (Array.getElem?_eq_some_iff.1 hok).1
          have hlt : e.on < k := by
            rcases Nat.lt_or_ge e.on k with h | h
            · exact h
            · exfalso
              have h2 := canon_get (k - 0) 0 (Array.replicate ops.size false) e.on
              rw [if_neg (by omega)] at h2
              rcases Nat.lt_or_ge e.on ops.size with h3 | h3
              · have h4 : (Array.replicate ops.size false).getD e.on true = false := by simp [h3]
                rw [h4] at h2
                rw [getD_both h2] at h1; cases h1
              · have : (canon (k - 0) 0 (Array.replicate ops.size false)).getD e.on false = false := by
                  rw [Array.getD_eq_getD_getElem?, Array.getElem?_eq_none (by rw [canon_size]; simpa using h3)]; rfl
                rw [this] at h1; cases h1
          have h5 := hall e.on hlt
          have : e.on < listed.size := by rw [inv.size]; omega
          simp [this] at h5 ⊢; exact h5
        rw [h0] at hkr; cases hkr
    · have hjn := hready j hj
      obtain ⟨hjun, oj, hoj, hjall⟩ := mem_ready.1 hj
      have hjrest : j ∈ rest := (hrest j).2 ⟨hjn, hjun⟩
      have hrd : rdy ops rest j = true := by
        rw [rdy, List.all_eq_true]
        intro i hi
        cases hw : Region.waitsFor .any ops j i with
        | false => rfl
        | true =>
          obtain ⟨o', ho', e, he, hb, hon⟩ := Region.waitsFor_spec hw
          have := Option.some.inj (ho'.symm.trans hoj); subst this
          have h1 := hjall e he hb
          rw [hon, getD_both ((hrest i).1 hi).2] at h1
          cases h1
      have hlt : ∀ x ∈ rest, x < n := fun x hx => ((hrest x).1 hx).1
      have hlen' : (rest.erase j).length = m := by rw [List.length_erase_of_mem hjrest]; omega
      have hnd : rest.Nodup := hpw.imp (fun h => Nat.ne_of_lt h)
      have hrest' : ∀ k, k ∈ rest.erase j ↔ k < n ∧ (listed.setIfInBounds j true).getD k true = false := by
        intro k
        rw [hnd.mem_erase_iff, hrest k]
        by_cases hkj : k = j
        · subst hkj
          have hks : k < listed.size := by rw [inv.size]; exact (Array.getElem?_eq_some_iff.1 hoj).1
          simp [hks]
        · rw [getD_set_ne true (fun h => hkj h.symm)]
          simp [hkj]
      have hpw' : (rest.erase j).Pairwise (· < ·) := hpw.sublist List.erase_sublist
      have inv' := inv.set hj hjn
      cases hnj : N j with
      | false =>
        obtain ⟨v, hy, hW'⟩ := AW.pullq hap (Region.noSelect_spec hsel) hoj hnj m rest hlt hS hjrest hrd hW
        exact hy.wpOp hoj hS (ih _ _ _ _ hlen' inv' hrest' hpw' hW' hS)
      | true =>
        rcases AW.pulln hap (Region.noSelect_spec hsel) hoj hnj m rest hlt hS hjrest hrd hW with ⟨hw, hW'⟩ | ⟨hw, hg⟩
        · unfold wpOp
          simp only [hoj, hw, Bool.false_eq_true, if_false]
          exact ih _ _ _ _ hlen' inv' hrest' hpw' hW' hS
        · unfold wpOp
          simp only [hoj, hw, if_true]
          exact .inl (hg.wp fun v w' ⟨hS', hW'⟩ => ih _ _ _ _ hlen' inv' hrest' hpw' hW' hS')
/-- THE LAW. -/
theorem region {id : Nat} {Q : Exit → Act → World → Prop} {a : Act} {w : World} {l : List Oper} (n : Nat) (S : World → Prop) (N : Nat → Bool)
    (hm : P.follows .mixedOrders = true) (hB : checkO l.toArray n = true) (hS : S w.drew)
    (h : AW P l.toArray S N (fun a' w' => wpList P l.toArray Q (l.drop n) a' w') n (List.range n) a w.drew) : (Code.region id l.toArray true).wp P Q a w := by
  have hB' := hB
  simp only [checkO, Bool.and_eq_true, decide_eq_true_eq] at hB'
  have hn := hB'.1.1.2
  refine wp_region_any hm ?_
  have inv0 : HeadInv .any l.toArray n (Array.replicate l.toArray.size false) :=
    ⟨by simp, fun j oj _ hl => (by rw [getD_replicate_false] at hl; cases hl), fun t _ ht => getD_in (by simpa using ht) (getD_replicate_false _ _)⟩
  have hdl : (l.drop n).length = l.toArray.size - n := by simp
  have := soundO (Q := Q) hB (fun listed a' w' hq hF => by
    have := wpAny_of_seq (md := .any) (Q' := Q) (l.drop n) n listed a' w' (fun j => by simp [List.getElem?_drop]) (by rw [hdl]; exact hq) hF
    rwa [hdl] at this) n (List.range n) a w.drew (Array.replicate l.toArray.size false) (by simp) inv0
    (fun j => by
      rw [List.mem_range]
      constructor
      · intro hj; refine ⟨hj, ?_⟩
        have : j < l.toArray.size := by omega
        simp at this; simp [this]
      · exact fun h => h.1)
    List.pairwise_lt_range h hS
  rw [show n + (l.toArray.size - n) = l.toArray.size by omega] at this
  exact this
/-- A quiet operation. -/
theorem pure (q : Nat) {n : Nat} {rest : List Nat} {a : Act} {w : World} {o : Oper} {v : Value} (hq : rest.contains q = true) (hr : rdy ops rest q = true) (hN : N q = false) (ho : ops.toList[q]? = some o) (hw : Region.wanted o (yielded ops a.tmps) = true)
    (hv : ∀ w, S w → (execOp a.eval o).run P w = .ok (.value v) w) (h : AW P ops S N F n (rest.erase q) (a.put o.dst v) w) : AW P ops S N F (n + 1) rest a w :=
  .inl ⟨q, by simpa using hq, hN, hr, o, by simpa using ho, v, .inl ⟨hw, hv⟩, h⟩
theorem skip (q : Nat) {n : Nat} {rest : List Nat} {a : Act} {w : World} {o : Oper} (hq : rest.contains q = true) (hr : rdy ops rest q = true) (hN : N q = false) (ho : ops.toList[q]? = some o) (hw : Region.wanted o (yielded ops a.tmps) = false)
    (h : AW P ops S N F n (rest.erase q) (a.put o.dst undef) w) : AW P ops S N F (n + 1) rest a w :=
  .inl ⟨q, by simpa using hq, hN, hr, o, by simpa using ho, undef, .inr ⟨hw, rfl⟩, h⟩
def readyOf (ops : Array Oper) (rest : List Nat) : List Nat := rest.filter (rdy ops rest)
/-- The others: each that is ready. -/
theorem fork {n : Nat} {rest rs : List Nat} {a : Act} {w : World} (hall : (rest.all fun q => N q || !rdy ops rest q) = true) (hrs : readyOf ops rest = rs)
    (h : ∀ j ∈ rs, ∃ o, ops.toList[j]? = some o ∧ ((Region.wanted o (yielded ops a.tmps) = false ∧ AW P ops S N F n (rest.erase j) (a.put o.dst undef) w) ∨ (Region.wanted o (yielded ops a.tmps) = true ∧ Gives P o a w (fun v w' => S w' ∧ AW P ops S N F n (rest.erase j) (a.put o.dst v) w')))) : AW P ops S N F (n + 1) rest a w :=
  .inr ⟨hall, fun j hj hr => by
    obtain ⟨o, ho, h⟩ := h j (by rw [← hrs]; exact List.mem_filter.2 ⟨hj, hr⟩)
    exact ⟨o, by simpa using ho, h⟩⟩
theorem one {n : Nat} {rest : List Nat} {a : Act} {w : World} (j : Nat) {o : Oper} (hall : (rest.all fun q => N q || !rdy ops rest q) = true) (hrs : readyOf ops rest = [j]) (ho : ops.toList[j]? = some o) (hw : Region.wanted o (yielded ops a.tmps) = true)
    (h : Gives P o a w (fun v w' => S w' ∧ AW P ops S N F n (rest.erase j) (a.put o.dst v) w')) : AW P ops S N F (n + 1) rest a w :=
  fork hall hrs fun i hi => by
    obtain rfl := List.mem_singleton.1 hi
    exact ⟨o, ho, .inr ⟨hw, h⟩⟩
theorem two {n : Nat} {rest : List Nat} {a : Act} {w : World} (j k : Nat) {o p : Oper} (hall : (rest.all fun q => N q || !rdy ops rest q) = true) (hrs : readyOf ops rest = [j, k]) (ho : ops.toList[j]? = some o) (hw : Region.wanted o (yielded ops a.tmps) = true) (hp : ops.toList[k]? = some p) (hw' : Region.wanted p (yielded ops a.tmps) = true)
    (h : Gives P o a w (fun v w' => S w' ∧ AW P ops S N F n (rest.erase j) (a.put o.dst v) w')) (h' : Gives P p a w (fun v w' => S w' ∧ AW P ops S N F n (rest.erase k) (a.put p.dst v) w')) : AW P ops S N F (n + 1) rest a w :=
  fork hall hrs fun i hi => by
    rcases List.mem_cons.1 hi with rfl | hi
    · exact ⟨o, ho, .inr ⟨hw, h⟩⟩
    · obtain rfl := List.mem_singleton.1 hi
      exact ⟨p, hp, .inr ⟨hw', h'⟩⟩
theorem done {a : Act} {w : World} (h : F a w) : AW P ops S N F 0 [] a w := ⟨rfl, h⟩
end
end Or
end Go.Proofs.Ytgpbmohfgjmpkaa

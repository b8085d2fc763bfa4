/- Pieces of memory: what a call knows of it, what it owns, what it leaves alone; the operations on memory as steps of the walk. No condition but Go's own limits. -/
import Derived.Test.YtgpbmohfgjmpkaaFr
namespace Go.Proofs.Ytgpbmohfgjmpkaa
open Go Go.RowKit
namespace Se
open Li (Blk Rd Fr)
/-- A slice of n elements of s cells, capacity c, that lies in a block r of its own. -/
def Ow (w : World) (s : Nat) (r : Option Nat) (A : Option Addr) (n c : Nat) (xs : List Value) : Prop :=
  xs.length = n * s ∧ n ≤ c ∧ ((c = 0 ∧ r = none) ∨ ∃ g off l t, A = some ⟨g, off, none⟩ ∧ r = some g ∧ Blk w g l t ∧ off + c * s ≤ l.length ∧ c ≤ maxLen ∧ (l.drop off).take (n * s) = xs)
inductive At where
  | blk (g : Nat) (t : TypeId) (l : List Value)
  | own (s : Nat) (r : Option Nat) (A : Option Addr) (n c : Nat) (xs : List Value)
  | rd (A : Option Addr) (xs : List Value)
  | abs (bs : List Nat) (φ : World → Prop) (h1 : ∀ w, φ w → ∀ b ∈ bs, b < w.heap.size) (h2 : ∀ w w' : World, φ w → (∀ b ∈ bs, w'.heap[b]? = w.heap[b]?) → φ w')
def At.holds (w : World) : At → Prop
  | .blk g t l => Blk w g l t
  | .own s r A n c xs => Ow w s r A n c xs
  | .rd A xs => Rd w A xs
  | .abs _ φ _ _ => φ w
def At.owned : At → List Nat
  | .blk g _ _ => [g]
  | .own _ r _ _ _ _ => r.toList
  | .rd _ _ => []
  | .abs bs _ _ _ => bs
/-- A part that is only read does not lie in block b. -/
def At.far (b : Nat) : At → Prop
  | .rd A xs => xs ≠ [] → ∀ a, A = some a → a.block ≠ b
  | _ => True
abbrev ownedL (L : List At) : List Nat := L.flatMap At.owned
structure St (w0 : World) (X : List Nat) (L : List At) (w : World) : Prop where
  hold : ∀ a ∈ L, a.holds w
  nd : (ownedL L).Nodup
  sep : ∀ a ∈ L, ∀ b ∈ ownedL L, a.far b
  may : ∀ g ∈ ownedL L, g < w0.heap.size → g ∈ X
  fr : Fr (· ∈ X) w0 w
theorem Ow.lt {w : World} {s g : Nat} {A : Option Addr} {n c : Nat} {xs : List Value} (h : Ow w s (some g) A n c xs) : g < w.heap.size := by
  obtain ⟨_, _, h | ⟨g', off, l, t, _, h, hb, _⟩⟩ := h
  · cases h.2
  · cases h; exact hb.lt
theorem At.lt {w : World} {a : At} (h : a.holds w) {b : Nat} (hb : b ∈ a.owned) : b < w.heap.size := by
  cases a with
  | blk g t l => simp [At.owned] at hb; subst hb; exact Blk.lt h
  | own s r A n c xs =>
    cases r with
    | none => simp [At.owned] at hb
    | some g => simp [At.owned] at hb; subst hb; exact Ow.lt h
  | rd A xs => simp [At.owned] at hb
  | abs bs φ h1 h2 => exact h1 w h b hb
theorem Ow.of_block {w w' : World} {s : Nat} {r : Option Nat} {A : Option Addr} {n c : Nat} {xs : List Value} (h : Ow w s r A n c xs) (e : ∀ g, r = some g → w'.heap[g]? = w.heap[g]?) : Ow w' s r A n c xs := by
  obtain ⟨h1, h2, h | ⟨g, off, l, t, hA, hr, hb, h3⟩⟩ := h
  · exact ⟨h1, h2, .inl h⟩
  · exact ⟨h1, h2, .inr ⟨g, off, l, t, hA, hr, hb.of_block (e g hr), h3⟩⟩
theorem Ow.rd {w : World} {s : Nat} {r : Option Nat} {A : Option Addr} {n c : Nat} {xs : List Value} (h : Ow w s r A n c xs) : Rd w A xs := by
  obtain ⟨h1, h2, h | ⟨g, off, l, t, hA, hr, hb, h3, h4, h5⟩⟩ := h
  · have : n = 0 := by omega
    subst this
    simp at h1
    exact .inl h1
  · refine .inr ⟨g, off, hA, fun i hi => ?_⟩
    rw [hb.cell, ← h5, List.getElem?_take_of_lt (by omega), List.getElem?_drop]
/-- A piece stays where only other blocks turn. -/
theorem At.fr {X : Nat → Prop} {w w' : World} {a : At} (h : a.holds w) (k : Fr X w w') (ho : ∀ b ∈ a.owned, ¬ X b) (hf : ∀ b, b < w.heap.size → X b → a.far b) : a.holds w' := by
  cases a with
  | blk g t l => exact Blk.fr h k (ho g (by simp [At.owned]))
  | own s r A n c xs => exact Ow.of_block h fun g hg => k.block g (by subst hg; exact Ow.lt h) (ho g (by simp [At.owned, hg]))
  | abs bs φ h1 h2 => exact h2 w w' h fun b hb => k.block b (h1 w h b hb) (ho b hb)
  | rd A xs =>
    by_cases hx : xs = []
    · exact .inl hx
    · obtain ⟨g, off, hA, hl, _⟩ := Rd.cells h hx
      refine Rd.fr h k fun a ha hx hX => ?_
      have := hf a.block (by rw [hA] at ha; cases ha; exact hl) hX
      exact this hx a ha rfl
theorem owned_sub {L L' : List At} (p : L'.Sublist L) : (ownedL L').Sublist (ownedL L) := by
  induction p with
  | slnil => exact List.Sublist.refl _
  | cons a _ ih => exact ih.trans (by simp only [ownedL, List.flatMap_cons]; exact List.sublist_append_right _ _)
  | cons_cons a _ ih => simp only [ownedL, List.flatMap_cons]; exact List.Sublist.append_left ih _
theorem perm_at {L : List At} (k : Nat) (hlt : k < L.length) : L.Perm (L[k] :: L.eraseIdx k) := by
  conv => lhs; rw [← List.take_append_drop k L, List.drop_eq_getElem_cons hlt]
  rw [List.eraseIdx_eq_take_drop_succ]
  exact List.perm_middle
theorem far_new {w : World} {a : At} (h : a.holds w) {b : Nat} (hb : w.heap.size ≤ b) : a.far b := by
  cases a with
  | rd A xs =>
    intro hx a ha
    obtain ⟨g, off, hA, hl, _⟩ := Rd.cells h hx
    rw [hA] at ha; cases ha
    show g ≠ b
    omega
  | _ => trivial
def At.noRd : At → Prop
  | .rd _ _ => False
  | _ => True
section
variable {w0 w w' : World} {X : List Nat} {L L' P P' : List At}
theorem St.perm (h : St w0 X L w) (p : L.Perm L') : St w0 X L' w := by
  have q : (ownedL L).Perm (ownedL L') := p.flatMap_right _
  exact ⟨fun a ha => h.hold a (p.mem_iff.2 ha), q.nodup_iff.1 h.nd, fun a ha b hb => h.sep a (p.mem_iff.2 ha) b (q.mem_iff.2 hb), fun g hg => h.may g (q.mem_iff.2 hg), h.fr⟩
theorem St.sub (h : St w0 X L w) (p : L'.Sublist L) : St w0 X L' w := by
  have q : (ownedL L').Sublist (ownedL L) := owned_sub p
  exact ⟨fun a ha => h.hold a (p.subset ha), h.nd.sublist q, fun a ha b hb => h.sep a (p.subset ha) b (q.subset hb), fun g hg => h.may g (q.subset hg), h.fr⟩
theorem St.drop {a : At} (h : St w0 X (a :: L) w) : St w0 X L w := h.sub (List.sublist_cons_self _ _)
theorem St.pull (h : St w0 X L w) (k : Nat) {a : At} (hk : L[k]? = some a) : St w0 X (a :: L.eraseIdx k) w := by
  refine h.perm ?_
  obtain ⟨hlt, rfl⟩ := List.getElem?_eq_some_iff.1 hk
  exact perm_at k hlt
theorem St.put (k : Nat) {a a' : At} (hk : L[k]? = some a) (h : St w0 X (a' :: L.eraseIdx k) w) : St w0 X (L.set k a') w := by
  refine h.perm ?_
  obtain ⟨hlt, rfl⟩ := List.getElem?_eq_some_iff.1 hk
  have e : (L.set k a').eraseIdx k = L.eraseIdx k := by
    rw [List.eraseIdx_set_eq]
  have := perm_at (L := L.set k a') k (by simpa using hlt)
  rw [List.getElem_set_self, e] at this
  exact this.symm
/-- The pieces P turn into P'; all else stays. -/
theorem St.turn (h : St w0 X (P ++ L) w) (k : Fr (· ∈ ownedL P) w w') (hp : ∀ a ∈ P', a.holds w') (hr : ∀ a ∈ P', a.noRd) (hn : (ownedL P').Nodup) (hm : ∀ b ∈ ownedL P', b ∈ ownedL P ∨ w.heap.size ≤ b) : St w0 X (P' ++ L) w' := by
  have hnd := h.nd
  simp only [ownedL, List.flatMap_append, List.nodup_append] at hnd
  obtain ⟨_, n2, n3⟩ := hnd
  have inL : ∀ a ∈ L, a ∈ P ++ L := fun a ha => List.mem_append.2 (.inr ha)
  have oP : ∀ b ∈ ownedL P, b ∈ ownedL (P ++ L) := fun b hb => by simp only [ownedL, List.flatMap_append, List.mem_append]; exact .inl hb
  have oL : ∀ b ∈ ownedL L, b ∈ ownedL (P ++ L) := fun b hb => by simp only [ownedL, List.flatMap_append, List.mem_append]; exact .inr hb
  have hLlt : ∀ b ∈ ownedL L, b < w.heap.size := fun b hb => by
    obtain ⟨a, ha, hab⟩ := List.mem_flatMap.1 hb
    exact At.lt (h.hold a (inL a ha)) hab
  have hold : ∀ a ∈ L, a.holds w' := fun a ha => At.fr (h.hold a (inL a ha)) k
    (fun b hb hX => n3 b hX b (List.mem_flatMap.2 ⟨a, ha, hb⟩) rfl)
    (fun b _ hX => h.sep a (inL a ha) b (oP b hX))
  refine ⟨?_, ?_, ?_, ?_, ?_⟩
  · intro a ha
    rcases List.mem_append.1 ha with ha | ha
    · exact hp a ha
    · exact hold a ha
  · simp only [ownedL, List.flatMap_append, List.nodup_append]
    refine ⟨hn, n2, fun b hb c hc e => ?_⟩
    subst e
    rcases hm b hb with hb | hb
    · exact n3 b hb b hc rfl
    · have := hLlt b hc; omega
  · intro a ha b hb
    rcases List.mem_append.1 ha with ha | ha
    · have := hr a ha
      cases a <;> first | trivial | exact absurd this (by simp [At.noRd])
    · simp only [ownedL, List.flatMap_append, List.mem_append] at hb
      rcases hb with hb | hb
      · rcases hm b hb with hb | hb
        · exact h.sep a (inL a ha) b (oP b hb)
        · exact far_new (h.hold a (inL a ha)) hb
      · exact h.sep a (inL a ha) b (oL b hb)
  · intro g hg hlt
    simp only [ownedL, List.flatMap_append, List.mem_append] at hg
    rcases hg with hg | hg
    · rcases hm g hg with hg | hg
      · exact h.may g (oP g hg) hlt
      · have := h.fr.size; omega
    · exact h.may g (oL g hg) hlt
  · exact h.fr.trans k fun b hb hX => h.may b (oP b hX) hb
theorem St.ext (h : St w0 X L w) (e : Below w.heap.size w w') : St w0 X L w' :=
  St.turn (P := []) (P' := []) h (Fr.ext e) (by simp) (by simp) (by simp [ownedL]) (by simp [ownedL])
theorem St.drewN (h : St w0 X L w) (n : Nat) : St w0 X L (w.drewN n) := h.ext (Hv.Ext.drewN w n)
theorem St.drew (h : St w0 X L w) : St w0 X L w.drew := h.ext (Hv.Ext.drew w)
theorem St.alloc (h : St w0 X L w) (l : List Value) (t : TypeId) : St w0 X (.blk w.heap.size t l :: L) (w.alloc (.cells l.toArray t)) :=
  St.turn (P := []) (P' := [.blk w.heap.size t l]) h (Fr.ext (Hv.Ext.alloc _ _)) (by simp [At.holds]; exact Blk.new _ _ _) (by simp [At.noRd]) (by simp [ownedL, At.owned]) (by simp [ownedL, At.owned])
theorem St.setCells {g : Nat} {t : TypeId} {l : List Value} (h : St w0 X (.blk g t l :: L) w) (o : Nat) (vs : List Value) (hl : o + vs.length ≤ l.length) : St w0 X (.blk g t (l.take o ++ vs ++ l.drop (o + vs.length)) :: L) (w.setCells g o vs) :=
  St.turn (P := [.blk g t l]) (P' := [.blk g t (l.take o ++ vs ++ l.drop (o + vs.length))]) h ((Fr.refl _ w).setCells (by simp [ownedL, At.owned]) _ _)
    (by simp only [List.mem_singleton, forall_eq, At.holds]; exact Blk.setCells vs o (h.hold _ List.mem_cons_self) hl) (by simp [At.noRd]) (by simp [ownedL, At.owned]) (by simp [ownedL, At.owned])
theorem St.setAll {g : Nat} {t : TypeId} {l vs : List Value} (h : St w0 X (.blk g t l :: L) w) (hl : vs.length = l.length) : St w0 X (.blk g t vs :: L) (w.setCells g 0 vs) := by
  have := h.setCells 0 vs (by omega)
  simpa [hl] using this
theorem St.setCell {g : Nat} {t : TypeId} {l : List Value} (h : St w0 X (.blk g t l :: L) w) (i : Nat) (v : Value) : St w0 X (.blk g t (l.set i v) :: L) (w.setCell ⟨g, i, none⟩ v) :=
  St.turn (P := [.blk g t l]) (P' := [.blk g t (l.set i v)]) h ((Fr.refl _ w).setCell (by simp [ownedL, At.owned]) _ _)
    (by simp only [List.mem_singleton, forall_eq, At.holds]; exact Blk.set (h.hold _ List.mem_cons_self) i v) (by simp [At.noRd]) (by simp [ownedL, At.owned]) (by simp [ownedL, At.owned])
theorem St.start (w : World) (hL : ∀ a ∈ L, a.holds w) (h : ownedL L = []) : St w [] L w :=
  ⟨hL, by rw [h]; simp, by rw [h]; simp, by rw [h]; simp, Fr.refl _ _⟩
/-- From another beginning. -/
theorem St.below (h : St w0 [] L w) : Below w0.heap.size w0 w := h.fr.below (Nat.le_refl _) (by simp)
/-- What a block of one's own becomes: a slice of one's own; or only read. -/
theorem St.blk_own {g : Nat} {t : TypeId} {l : List Value} (h : St w0 X (.blk g t l :: L) w) (s n c : Nat) (hc : c * s ≤ l.length) (hn : n ≤ c) (hm : c ≤ maxLen) : St w0 X (.own s (some g) (some ⟨g, 0, none⟩) n c (l.take (n * s)) :: L) w :=
  St.turn (P := [.blk g t l]) (P' := [.own s (some g) (some ⟨g, 0, none⟩) n c (l.take (n * s))]) h (Fr.refl _ w)
    (by
      have hb : Blk w g l t := h.hold _ List.mem_cons_self
      have : n * s ≤ c * s := Nat.mul_le_mul_right _ hn
      simp only [List.mem_singleton, forall_eq, At.holds]
      exact ⟨by simp; omega, hn, .inr ⟨g, 0, l, t, rfl, rfl, hb, by omega, hm, by simp⟩⟩) (by simp [At.noRd]) (by simp [ownedL, At.owned]) (by simp [ownedL, At.owned])
theorem St.nil_own (h : St w0 X L w) (s : Nat) (A : Option Addr) : St w0 X (.own s none A 0 0 [] :: L) w :=
  St.turn (P := []) (P' := [.own s none A 0 0 []]) h (Fr.refl _ w)
    (by simp only [List.mem_singleton, forall_eq, At.holds]; exact ⟨by simp, Nat.le_refl _, .inl ⟨rfl, rfl⟩⟩) (by simp [At.noRd]) (by simp [ownedL, At.owned]) (by simp [ownedL, At.owned])
theorem St.own_rd {s : Nat} {r : Option Nat} {A : Option Addr} {n c : Nat} {xs : List Value} (h : St w0 X (.own s r A n c xs :: L) w) : St w0 X (.rd A xs :: L) w := by
  have ho : Ow w s r A n c xs := h.hold _ List.mem_cons_self
  have hnd := h.nd
  simp only [ownedL, List.flatMap_cons, List.nodup_append] at hnd
  refine ⟨?_, hnd.2.1, ?_, fun g hg => h.may g (by simp only [ownedL, List.flatMap_cons, List.mem_append]; exact .inr hg), h.fr⟩
  · intro a ha
    rcases List.mem_cons.1 ha with rfl | ha
    · exact ho.rd
    · exact h.hold a (List.mem_cons_of_mem _ ha)
  · intro a ha b hb
    have hb' : b ∈ ownedL L := hb
    rcases List.mem_cons.1 ha with rfl | ha
    · intro hx a ha
      obtain ⟨h1, h2, h3 | ⟨g, off, l, t, hA, hr, hbk, h3, h4, h5⟩⟩ := ho
      · have : n = 0 := by omega
        subst this; simp at h1; exact absurd h1 hx
      · rw [hA] at ha; cases ha
        exact fun e => hnd.2.2 g (by simp [At.owned, hr]) b hb' e
    · exact h.sep a (List.mem_cons_of_mem _ ha) b (by simp only [ownedL, List.flatMap_cons, List.mem_append]; exact .inr hb')
theorem St.blk_rd {g : Nat} {t : TypeId} {l : List Value} (h : St w0 X (.blk g t l :: L) w) : St w0 X (.rd (some ⟨g, 0, none⟩) l :: L) w := by
  have ho : Blk w g l t := h.hold _ List.mem_cons_self
  have hnd := h.nd
  simp only [ownedL, List.flatMap_cons, List.nodup_append] at hnd
  refine ⟨?_, hnd.2.1, ?_, fun k hk => h.may k (by simp only [ownedL, List.flatMap_cons, List.mem_append]; exact .inr hk), h.fr⟩
  · intro a ha
    rcases List.mem_cons.1 ha with rfl | ha
    · exact Rd.of_blk ho
    · exact h.hold a (List.mem_cons_of_mem _ ha)
  · intro a ha b hb
    have hb' : b ∈ ownedL L := hb
    rcases List.mem_cons.1 ha with rfl | ha
    · intro hx a ha
      cases ha
      exact fun e => hnd.2.2 g (by simp [At.owned]) b hb' e
    · exact h.sep a (List.mem_cons_of_mem _ ha) b (by simp only [ownedL, List.flatMap_cons, List.mem_append]; exact .inr hb')
theorem St.abs {a : At} (h : St w0 X (a :: L) w) {bs : List Nat} {φ : World → Prop} (h1 : ∀ w, φ w → ∀ b ∈ bs, b < w.heap.size) (h2 : ∀ w w' : World, φ w → (∀ b ∈ bs, w'.heap[b]? = w.heap[b]?) → φ w') (hn : bs.Nodup) (hb : ∀ b ∈ bs, b ∈ a.owned) (hφ : φ w) : St w0 X (.abs bs φ h1 h2 :: L) w :=
  St.turn (P := [a]) (P' := [.abs bs φ h1 h2]) h (Fr.refl _ w) (by simp only [List.mem_singleton, forall_eq]; exact hφ) (by simp [At.noRd]) (by simpa [ownedL, At.owned] using hn) (by simpa [ownedL, At.owned] using fun b hb' => Or.inl (hb b hb'))
end
/-! ### What a list of pieces says -/
def Reads (L : List At) (A : Option Addr) (xs : List Value) : Prop := ∀ w, (∀ a ∈ L, a.holds w) → Rd w A xs
def Cell (L : List At) (g i : Nat) (v : Value) : Prop := ∀ w, (∀ a ∈ L, a.holds w) → w.cell? ⟨g, i, none⟩ = some v
section
variable {L L' : List At} {A : Option Addr} {xs : List Value}
theorem Reads.rd (k : Nat) (h : L[k]? = some (.rd A xs)) : Reads L A xs := fun _ hw => hw _ (List.mem_of_getElem? h)
theorem Reads.own (k : Nat) {s : Nat} {r : Option Nat} {n c : Nat} (h : L[k]? = some (.own s r A n c xs)) : Reads L A xs := fun _ hw => Ow.rd (hw _ (List.mem_of_getElem? h))
theorem Reads.blk (k : Nat) {g : Nat} {t : TypeId} (h : L[k]? = some (.blk g t xs)) : Reads L (some ⟨g, 0, none⟩) xs := fun _ hw => Rd.of_blk (hw _ (List.mem_of_getElem? h))
theorem Reads.nil : Reads L A [] := fun _ _ => .inl rfl
theorem Reads.take (h : Reads L A xs) (k : Nat) : Reads L A (xs.take k) := fun w hw => (h w hw).take k
theorem Reads.mono (h : Reads L A xs) (hs : ∀ a ∈ L, a ∈ L') : Reads L' A xs := fun w hw => h w fun a ha => hw a (hs a ha)
theorem Reads.cons (h : Reads L A xs) (a : At) : Reads (a :: L) A xs := h.mono fun _ h => List.mem_cons_of_mem _ h
theorem Reads.app (h : Reads L A xs) (P : List At) : Reads (P ++ L) A xs := h.mono fun _ h => List.mem_append.2 (.inr h)
theorem Reads.rdm (h : .rd A xs ∈ L) : Reads L A xs := fun _ hw => hw _ h
/-- What the other pieces read does not lie in a piece of one's own. -/
theorem Reads.far {w0 w : World} {X : List Nat} {a : At} (h : St w0 X (a :: L) w) (hr : Reads L A xs) (hx : xs ≠ []) : ∀ ad, A = some ad → ad.block ∉ a.owned := by
  intro ad hA hb
  obtain ⟨w2, hw2⟩ : ∃ w2 : World, w2 = { w with heap := w.heap.modify ad.block fun _ => .cells #[] 0 } := ⟨_, rfl⟩
  have hfr : Fr (· = ad.block) w w2 := by
    subst hw2
    refine ⟨rfl, rfl, rfl, by simp, fun b _ hne => ?_⟩
    have : ¬ ad.block = b := fun e => hne e.symm
    simp [Array.getElem?_modify, this]
  have hnd := h.nd
  simp only [ownedL, List.flatMap_cons, List.nodup_append] at hnd
  have hR := hr w2 fun a' ha' => At.fr (h.hold a' (List.mem_cons_of_mem _ ha')) hfr
    (fun b hb' e => hnd.2.2 ad.block hb b (List.mem_flatMap.2 ⟨a', ha', hb'⟩) (by rw [e]))
    (fun b _ e => by subst e; exact h.sep a' (List.mem_cons_of_mem _ ha') ad.block (by simp only [ownedL, List.flatMap_cons, List.mem_append]; exact .inl hb))
  obtain ⟨g, off, hA2, hl, hc⟩ := hR.cells hx
  rw [hA] at hA2; cases hA2
  have h0 : 0 < xs.length := List.length_pos_iff.2 hx
  have := hc 0 h0
  subst hw2
  rw [List.getElem?_eq_getElem h0] at this
  simp only [World.cell?, Array.getElem?_modify] at this
  cases hg : w.heap[g]? <;> simp [hg] at this
theorem Rd.drop {w : World} (h : Rd w A xs) (k c : Nat) (hk : k ≤ xs.length) (hc : c = k → xs.length ≤ k) : Rd w (if c = k then A else A.map (·.add k)) (xs.drop k) := by
  rcases h with rfl | ⟨g, off, rfl, h⟩
  · exact .inl (by simp)
  · by_cases hck : c = k
    · exact .inl (List.drop_eq_nil_of_le (hc hck))
    · rw [if_neg hck]
      refine .inr ⟨g, off + k, by simp [Addr.add_lit], fun i hi => ?_⟩
      rw [List.length_drop] at hi
      rw [Nat.add_assoc, h (k + i) (by omega), List.getElem?_drop]
theorem Rd.drop' {w : World} (h : Rd w A xs) (k : Nat) : Rd w (A.map (·.add k)) (xs.drop k) := by
  rcases h with rfl | ⟨g, off, rfl, h⟩
  · exact .inl (by simp)
  · refine .inr ⟨g, off + k, by simp [Addr.add_lit], fun i hi => ?_⟩
    rw [List.length_drop] at hi
    rw [Nat.add_assoc, h (k + i) (by omega), List.getElem?_drop]
theorem Reads.at {g o : Nat} (h : Reads L (some ⟨g, o, none⟩) xs) (k : Nat) : Reads L (some ⟨g, o + k, none⟩) (xs.drop k) := fun w hw => by
  have := Rd.drop' (h w hw) k
  simpa [Addr.add_lit] using this
theorem Reads.cell {g o : Nat} (h : Reads L (some ⟨g, o, none⟩) xs) (i : Nat) {v : Value} (hv : xs[i]? = some v) : Cell L g (o + i) v := fun w hw => by
  have hi := (List.getElem?_eq_some_iff.1 hv).1
  rcases h w hw with rfl | ⟨g', off, e, hc⟩
  · simp at hi
  · cases e
    rw [hc i hi, hv]
theorem Reads.cell0 {g : Nat} (h : Reads L (some ⟨g, 0, none⟩) xs) (i : Nat) {v : Value} (hv : xs[i]? = some v) : Cell L g i v := by
  have := h.cell i hv
  rwa [Nat.zero_add] at this
theorem Cell.blk (k : Nat) {g i : Nat} {t : TypeId} {l : List Value} (h : L[k]? = some (.blk g t l)) {v : Value} (hv : l[i]? = some v) : Cell L g i v := (Reads.blk k h).cell0 i hv
end
end Se
end Go.Proofs.Ytgpbmohfgjmpkaa

/- Pieces of memory: what a call knows of it, what it owns, what it leaves alone; the operations on memory as steps of the walk. No condition but Go's own limits. -/
import Derived.Test.YtakdoijemopejaaGreatBaseA
import Derived.Deep.Upon
import Derived.Deep.DeepCutAuto
import Derived.ChangeKeysEq
import Derived.Laws.StructEq
import Derived.WalkKit
import Derived.ProofKit
import Derived.OpenShut
import Derived.ShutString
import Derived.ChangeOld
import Derived.Below
import Derived.Carry
import Derived.Deep.Matrix
import Derived.Deep.Slices
set_option linter.unusedSimpArgs false
set_option linter.unusedVariables false
namespace Go.Proofs.YtakdoijemopejaaGreat
open Go Go.RowKit
namespace Se
open Li (Blk Rd Fr)
/-- A slice of n elements of s cells, capacity c, that lies in a block r of its own. -/
def Ow (w : World) (s : Nat) (r : Option Nat) (A : Option Addr) (n c : Nat) (xs : List Value) : Prop :=
 xs.length = n * s ∧ n ≤ c ∧ ((c = 0 ∧ r = none) ∨ ∃ g off l t, A = some ⟨g, off, none⟩ ∧ r = some g ∧ Blk w g l t ∧ off + c * s ≤ l.length ∧ c ≤ maxLen ∧ (l.drop off).take (n * s) = xs)
inductive At where
 | blk (g : Nat) (t : TypeId) (l : List Value)
 | own (s : Nat) (r : Option Nat) (A : Option Addr) (n c : Nat) (xs : List Value)
 | rd (A : Option Addr) (xs : List Value)
 | abs (bs : List Nat) (φ : World → Prop) (h1 : ∀ w, φ w → ∀ b ∈ bs, b < w.heap.size) (h2 : ∀ w w' : World, φ w → (∀ b ∈ bs, w'.heap[b]? = w.heap[b]?) → φ w')
def At.holds (w : World) : At → Prop
 | .blk g t l => Blk w g l t
 | .own s r A n c xs => Ow w s r A n c xs
 | .rd A xs => Rd w A xs
 | .abs _ φ _ _ => φ w
def At.owned : At → List Nat
 | .blk g _ _ => [g]
 | .own _ r _ _ _ _ => r.toList
 | .rd _ _ => []
 | .abs bs _ _ _ => bs
/-- A part that is only read does not lie in block b. -/
def At.far (b : Nat) : At → Prop
 | .rd A xs => xs ≠ [] → ∀ a, A = some a → a.block ≠ b
 | _ => True
abbrev ownedL (L : List At) : List Nat := L.flatMap At.owned
structure St (w0 : World) (X : List Nat) (L : List At) (w : World) : Prop where
 hold : ∀ a ∈ L, a.holds w
 nd : (ownedL L).Nodup
 sep : ∀ a ∈ L, ∀ b ∈ ownedL L, a.far b
 may : ∀ g ∈ ownedL L, g < w0.heap.size → g ∈ X
 fr : Fr (· ∈ X) w0 w
theorem Ow.lt {w : World} {s g : Nat} {A : Option Addr} {n c : Nat} {xs : List Value} (h : Ow w s (some g) A n c xs) : g < w.heap.size := by
 obtain ⟨_, _, h | ⟨g', off, l, t, _, h, hb, _⟩⟩ := h
 ·cases h.2
 ·cases h; exact hb.lt
theorem At.lt {w : World} {a : At} (h : a.holds w) {b : Nat} (hb : b ∈ a.owned) : b < w.heap.size := by
 cases a with
 | blk g t l => simp [At.owned] at hb; subst hb; exact Blk.lt h
 | own s r A n c xs =>
  cases r with
  | none => simp [At.owned] at hb
  | some g => simp [At.owned] at hb; subst hb; exact Ow.lt h
 | rd A xs => simp [At.owned] at hb
 | abs bs φ h1 h2 => exact h1 w h b hb
theorem Ow.of_block {w w' : World} {s : Nat} {r : Option Nat} {A : Option Addr} {n c : Nat} {xs : List Value} (h : Ow w s r A n c xs) (e : ∀ g, r = some g → w'.heap[g]? = w.heap[g]?) : Ow w' s r A n c xs := by
 obtain ⟨h1, h2, h | ⟨g, off, l, t, hA, hr, hb, h3⟩⟩ := h
 ·exact ⟨h1, h2, .inl h⟩
 ·exact ⟨h1, h2, .inr ⟨g, off, l, t, hA, hr, hb.of_block (e g hr), h3⟩⟩
theorem Ow.rd {w : World} {s : Nat} {r : Option Nat} {A : Option Addr} {n c : Nat} {xs : List Value} (h : Ow w s r A n c xs) : Rd w A xs := by
 obtain ⟨h1, h2, h | ⟨g, off, l, t, hA, hr, hb, h3, h4, h5⟩⟩ := h
 ·have : n = 0 := by omega
  subst this
  simp at h1
  exact .inl h1
 ·refine .inr ⟨g, off, hA, fun i hi => ?_⟩
  rw [hb.cell, ← h5, List.getElem?_take_of_lt (by omega), List.getElem?_drop]
/-- A piece stays where only other blocks turn. -/
theorem At.fr {X : Nat → Prop} {w w' : World} {a : At} (h : a.holds w) (k : Fr X w w') (ho : ∀ b ∈ a.owned, ¬ X b) (hf : ∀ b, b < w.heap.size → X b → a.far b) : a.holds w' := by
 cases a with
 | blk g t l => exact Blk.fr h k (ho g (by simp [At.owned]))
 | own s r A n c xs => exact Ow.of_block h fun g hg => k.block g (by subst hg; exact Ow.lt h) (ho g (by simp [At.owned, hg]))
 | abs bs φ h1 h2 => exact h2 w w' h fun b hb => k.block b (h1 w h b hb) (ho b hb)
 | rd A xs =>
  by_cases hx : xs = []
  ·exact .inl hx
  ·obtain ⟨g, off, hA, hl, _⟩ := Rd.cells h hx
   refine Rd.fr h k fun a ha hx hX => ?_
   have := hf a.block (by rw [hA] at ha; cases ha; exact hl) hX
   exact this hx a ha rfl
theorem owned_sub {L L' : List At} (p : L'.Sublist L) : (ownedL L').Sublist (ownedL L) := by
 induction p with
 | slnil => exact List.Sublist.refl _
 | cons a _ ih => exact ih.trans (by simp only [ownedL, List.flatMap_cons]; exact List.sublist_append_right _ _)
 | cons_cons a _ ih => simp only [ownedL, List.flatMap_cons]; exact List.Sublist.append_left ih _
theorem perm_at {L : List At} (k : Nat) (hlt : k < L.length) : L.Perm (L[k] :: L.eraseIdx k) := by
 conv => lhs; rw [← List.take_append_drop k L, List.drop_eq_getElem_cons hlt]
 rw [List.eraseIdx_eq_take_drop_succ]
 exact List.perm_middle
theorem far_new {w : World} {a : At} (h : a.holds w) {b : Nat} (hb : w.heap.size ≤ b) : a.far b := by
 cases a with
 | rd A xs =>
  intro hx a ha
  obtain ⟨g, off, hA, hl, _⟩ := Rd.cells h hx
  rw [hA] at ha; cases ha
  show g ≠ b
  omega
 | _ => trivial
def At.noRd : At → Prop
 | .rd _ _ => False
 | _ => True
section
variable {w0 w w' : World} {X : List Nat} {L L' P P' : List At}
theorem St.perm (h : St w0 X L w) (p : L.Perm L') : St w0 X L' w := by
 have q : (ownedL L).Perm (ownedL L') := p.flatMap_right _
 exact ⟨fun a ha => h.hold a (p.mem_iff.2 ha), q.nodup_iff.1 h.nd, fun a ha b hb => h.sep a (p.mem_iff.2 ha) b (q.mem_iff.2 hb), fun g hg => h.may g (q.mem_iff.2 hg), h.fr⟩
theorem St.sub (h : St w0 X L w) (p : L'.Sublist L) : St w0 X L' w := by
 have q : (ownedL L').Sublist (ownedL L) := owned_sub p
 exact ⟨fun a ha => h.hold a (p.subset ha), h.nd.sublist q, fun a ha b hb => h.sep a (p.subset ha) b (q.subset hb), fun g hg => h.may g (q.subset hg), h.fr⟩
theorem St.drop {a : At} (h : St w0 X (a :: L) w) : St w0 X L w := h.sub (List.sublist_cons_self _ _)
theorem St.pull (h : St w0 X L w) (k : Nat) {a : At} (hk : L[k]? = some a) : St w0 X (a :: L.eraseIdx k) w := by
 refine h.perm ?_
 obtain ⟨hlt, rfl⟩ := List.getElem?_eq_some_iff.1 hk
 exact perm_at k hlt
theorem St.put (k : Nat) {a a' : At} (hk : L[k]? = some a) (h : St w0 X (a' :: L.eraseIdx k) w) : St w0 X (L.set k a') w := by
 refine h.perm ?_
 obtain ⟨hlt, rfl⟩ := List.getElem?_eq_some_iff.1 hk
 have e : (L.set k a').eraseIdx k = L.eraseIdx k := by
  rw [List.eraseIdx_set_eq]
 have := perm_at (L := L.set k a') k (by simpa using hlt)
 rw [List.getElem_set_self, e] at this
 exact this.symm
/-- The pieces P turn into P'; all else stays. -/
theorem St.turn (h : St w0 X (P ++ L) w) (k : Fr (· ∈ ownedL P) w w') (hp : ∀ a ∈ P', a.holds w') (hr : ∀ a ∈ P', a.noRd) (hn : (ownedL P').Nodup) (hm : ∀ b ∈ ownedL P', b ∈ ownedL P ∨ w.heap.size ≤ b) : St w0 X (P' ++ L) w' := by
 have hnd := h.nd
 simp only [ownedL, List.flatMap_append, List.nodup_append] at hnd
 obtain ⟨_, n2, n3⟩ := hnd
 have inL : ∀ a ∈ L, a ∈ P ++ L := fun a ha => List.mem_append.2 (.inr ha)
 have oP : ∀ b ∈ ownedL P, b ∈ ownedL (P ++ L) := fun b hb => by simp only [ownedL, List.flatMap_append, List.mem_append]; exact .inl hb
 have oL : ∀ b ∈ ownedL L, b ∈ ownedL (P ++ L) := fun b hb => by simp only [ownedL, List.flatMap_append, List.mem_append]; exact .inr hb
 have hLlt : ∀ b ∈ ownedL L, b < w.heap.size := fun b hb => by
  obtain ⟨a, ha, hab⟩ := List.mem_flatMap.1 hb
  exact At.lt (h.hold a (inL a ha)) hab
 have hold : ∀ a ∈ L, a.holds w' := fun a ha => At.fr (h.hold a (inL a ha)) k
  (fun b hb hX => n3 b hX b (List.mem_flatMap.2 ⟨a, ha, hb⟩) rfl)
  (fun b _ hX => h.sep a (inL a ha) b (oP b hX))
 refine ⟨?_, ?_, ?_, ?_, ?_⟩
 ·intro a ha
  rcases List.mem_append.1 ha with ha | ha
  ·exact hp a ha
  ·exact hold a ha
 ·simp only [ownedL, List.flatMap_append, List.nodup_append]
  refine ⟨hn, n2, fun b hb c hc e => ?_⟩
  subst e
  rcases hm b hb with hb | hb
  ·exact n3 b hb b hc rfl
  ·have := hLlt b hc; omega
 ·intro a ha b hb
  rcases List.mem_append.1 ha with ha | ha
  ·have := hr a ha
   cases a <;> first | trivial | exact absurd this (by simp [At.noRd])
  ·simp only [ownedL, List.flatMap_append, List.mem_append] at hb
   rcases hb with hb | hb
   ·rcases hm b hb with hb | hb
    ·exact h.sep a (inL a ha) b (oP b hb)
    ·exact far_new (h.hold a (inL a ha)) hb
   ·exact h.sep a (inL a ha) b (oL b hb)
 ·intro g hg hlt
  simp only [ownedL, List.flatMap_append, List.mem_append] at hg
  rcases hg with hg | hg
  ·rcases hm g hg with hg | hg
   ·exact h.may g (oP g hg) hlt
   ·have := h.fr.size; omega
  ·exact h.may g (oL g hg) hlt
 ·exact h.fr.trans k fun b hb hX => h.may b (oP b hX) hb
theorem St.ext (h : St w0 X L w) (e : Below w.heap.size w w') : St w0 X L w' :=
 St.turn (P := []) (P' := []) h (Fr.ext e) (by simp) (by simp) (by simp [ownedL]) (by simp [ownedL])
theorem St.drewN (h : St w0 X L w) (n : Nat) : St w0 X L (w.drewN n) := h.ext (Hv.Ext.drewN w n)
theorem St.drew (h : St w0 X L w) : St w0 X L w.drew := h.ext (Hv.Ext.drew w)
theorem St.alloc (h : St w0 X L w) (l : List Value) (t : TypeId) : St w0 X (.blk w.heap.size t l :: L) (w.alloc (.cells l.toArray t)) :=
 St.turn (P := []) (P' := [.blk w.heap.size t l]) h (Fr.ext (Hv.Ext.alloc _ _)) (by simp [At.holds]; exact Blk.new _ _ _) (by simp [At.noRd]) (by simp [ownedL, At.owned]) (by simp [ownedL, At.owned])
theorem St.setCells {g : Nat} {t : TypeId} {l : List Value} (h : St w0 X (.blk g t l :: L) w) (o : Nat) (vs : List Value) (hl : o + vs.length ≤ l.length) : St w0 X (.blk g t (l.take o ++ vs ++ l.drop (o + vs.length)) :: L) (w.setCells g o vs) :=
 St.turn (P := [.blk g t l]) (P' := [.blk g t (l.take o ++ vs ++ l.drop (o + vs.length))]) h ((Fr.refl _ w).setCells (by simp [ownedL, At.owned]) _ _)
  (by simp only [List.mem_singleton, forall_eq, At.holds]; exact Blk.setCells vs o (h.hold _ List.mem_cons_self) hl) (by simp [At.noRd]) (by simp [ownedL, At.owned]) (by simp [ownedL, At.owned])
theorem St.setAll {g : Nat} {t : TypeId} {l vs : List Value} (h : St w0 X (.blk g t l :: L) w) (hl : vs.length = l.length) : St w0 X (.blk g t vs :: L) (w.setCells g 0 vs) := by
 have := h.setCells 0 vs (by omega)
 simpa [hl] using this
theorem St.setCell {g : Nat} {t : TypeId} {l : List Value} (h : St w0 X (.blk g t l :: L) w) (i : Nat) (v : Value) : St w0 X (.blk g t (l.set i v) :: L) (w.setCell ⟨g, i, none⟩ v) :=
 St.turn (P := [.blk g t l]) (P' := [.blk g t (l.set i v)]) h ((Fr.refl _ w).setCell (by simp [ownedL, At.owned]) _ _)
  (by simp only [List.mem_singleton, forall_eq, At.holds]; exact Blk.set (h.hold _ List.mem_cons_self) i v) (by simp [At.noRd]) (by simp [ownedL, At.owned]) (by simp [ownedL, At.owned])
theorem St.start (w : World) (hL : ∀ a ∈ L, a.holds w) (h : ownedL L = []) : St w [] L w :=
 ⟨hL, by rw [h]; simp, by rw [h]; simp, by rw [h]; simp, Fr.refl _ _⟩
/-- From another beginning. -/
theorem St.below (h : St w0 [] L w) : Below w0.heap.size w0 w := h.fr.below (Nat.le_refl _) (by simp)
/-- What a block of one's own becomes: a slice of one's own; or only read. -/
theorem St.blk_own {g : Nat} {t : TypeId} {l : List Value} (h : St w0 X (.blk g t l :: L) w) (s n c : Nat) (hc : c * s ≤ l.length) (hn : n ≤ c) (hm : c ≤ maxLen) : St w0 X (.own s (some g) (some ⟨g, 0, none⟩) n c (l.take (n * s)) :: L) w :=
 St.turn (P := [.blk g t l]) (P' := [.own s (some g) (some ⟨g, 0, none⟩) n c (l.take (n * s))]) h (Fr.refl _ w)
  (by
   have hb : Blk w g l t := h.hold _ List.mem_cons_self
   have : n * s ≤ c * s := Nat.mul_le_mul_right _ hn
   simp only [List.mem_singleton, forall_eq, At.holds]
   exact ⟨by simp; omega, hn, .inr ⟨g, 0, l, t, rfl, rfl, hb, by omega, hm, by simp⟩⟩) (by simp [At.noRd]) (by simp [ownedL, At.owned]) (by simp [ownedL, At.owned])
theorem St.nil_own (h : St w0 X L w) (s : Nat) (A : Option Addr) : St w0 X (.own s none A 0 0 [] :: L) w :=
 St.turn (P := []) (P' := [.own s none A 0 0 []]) h (Fr.refl _ w)
  (by simp only [List.mem_singleton, forall_eq, At.holds]; exact ⟨by simp, Nat.le_refl _, .inl ⟨rfl, rfl⟩⟩) (by simp [At.noRd]) (by simp [ownedL, At.owned]) (by simp [ownedL, At.owned])
theorem St.own_rd {s : Nat} {r : Option Nat} {A : Option Addr} {n c : Nat} {xs : List Value} (h : St w0 X (.own s r A n c xs :: L) w) : St w0 X (.rd A xs :: L) w := by
 have ho : Ow w s r A n c xs := h.hold _ List.mem_cons_self
 have hnd := h.nd
 simp only [ownedL, List.flatMap_cons, List.nodup_append] at hnd
 refine ⟨?_, hnd.2.1, ?_, fun g hg => h.may g (by simp only [ownedL, List.flatMap_cons, List.mem_append]; exact .inr hg), h.fr⟩
 ·intro a ha
  rcases List.mem_cons.1 ha with rfl | ha
  ·exact ho.rd
  ·exact h.hold a (List.mem_cons_of_mem _ ha)
 ·intro a ha b hb
  have hb' : b ∈ ownedL L := hb
  rcases List.mem_cons.1 ha with rfl | ha
  ·intro hx a ha
   obtain ⟨h1, h2, h3 | ⟨g, off, l, t, hA, hr, hbk, h3, h4, h5⟩⟩ := ho
   ·have : n = 0 := by omega
    subst this; simp at h1; exact absurd h1 hx
   ·rw [hA] at ha; cases ha
    exact fun e => hnd.2.2 g (by simp [At.owned, hr]) b hb' e
  ·exact h.sep a (List.mem_cons_of_mem _ ha) b (by simp only [ownedL, List.flatMap_cons, List.mem_append]; exact .inr hb')
theorem St.blk_rd {g : Nat} {t : TypeId} {l : List Value} (h : St w0 X (.blk g t l :: L) w) : St w0 X (.rd (some ⟨g, 0, none⟩) l :: L) w := by
 have ho : Blk w g l t := h.hold _ List.mem_cons_self
 have hnd := h.nd
 simp only [ownedL, List.flatMap_cons, List.nodup_append] at hnd
 refine ⟨?_, hnd.2.1, ?_, fun k hk => h.may k (by simp only [ownedL, List.flatMap_cons, List.mem_append]; exact .inr hk), h.fr⟩
 ·intro a ha
  rcases List.mem_cons.1 ha with rfl | ha
  ·exact Rd.of_blk ho
  ·exact h.hold a (List.mem_cons_of_mem _ ha)
 ·intro a ha b hb
  have hb' : b ∈ ownedL L := hb
  rcases List.mem_cons.1 ha with rfl | ha
  ·intro hx a ha
   cases ha
   exact fun e => hnd.2.2 g (by simp [At.owned]) b hb' e
  ·exact h.sep a (List.mem_cons_of_mem _ ha) b (by simp only [ownedL, List.flatMap_cons, List.mem_append]; exact .inr hb')
theorem St.abs {a : At} (h : St w0 X (a :: L) w) {bs : List Nat} {φ : World → Prop} (h1 : ∀ w, φ w → ∀ b ∈ bs, b < w.heap.size) (h2 : ∀ w w' : World, φ w → (∀ b ∈ bs, w'.heap[b]? = w.heap[b]?) → φ w') (hn : bs.Nodup) (hb : ∀ b ∈ bs, b ∈ a.owned) (hφ : φ w) : St w0 X (.abs bs φ h1 h2 :: L) w :=
 St.turn (P := [a]) (P' := [.abs bs φ h1 h2]) h (Fr.refl _ w) (by simp only [List.mem_singleton, forall_eq]; exact hφ) (by simp [At.noRd]) (by simpa [ownedL, At.owned] using hn) (by simpa [ownedL, At.owned] using fun b hb' => Or.inl (hb b hb'))
end
/-! ### What a list of pieces says -/
def Reads (L : List At) (A : Option Addr) (xs : List Value) : Prop := ∀ w, (∀ a ∈ L, a.holds w) → Rd w A xs
def Cell (L : List At) (g i : Nat) (v : Value) : Prop := ∀ w, (∀ a ∈ L, a.holds w) → w.cell? ⟨g, i, none⟩ = some v
section
variable {L L' : List At} {A : Option Addr} {xs : List Value}
theorem Reads.rd (k : Nat) (h : L[k]? = some (.rd A xs)) : Reads L A xs := fun _ hw => hw _ (List.mem_of_getElem? h)
theorem Reads.own (k : Nat) {s : Nat} {r : Option Nat} {n c : Nat} (h : L[k]? = some (.own s r A n c xs)) : Reads L A xs := fun _ hw => Ow.rd (hw _ (List.mem_of_getElem? h))
theorem Reads.blk (k : Nat) {g : Nat} {t : TypeId} (h : L[k]? = some (.blk g t xs)) : Reads L (some ⟨g, 0, none⟩) xs := fun _ hw => Rd.of_blk (hw _ (List.mem_of_getElem? h))
theorem Reads.nil : Reads L A [] := fun _ _ => .inl rfl
theorem Reads.take (h : Reads L A xs) (k : Nat) : Reads L A (xs.take k) := fun w hw => (h w hw).take k
theorem Reads.mono (h : Reads L A xs) (hs : ∀ a ∈ L, a ∈ L') : Reads L' A xs := fun w hw => h w fun a ha => hw a (hs a ha)
theorem Reads.cons (h : Reads L A xs) (a : At) : Reads (a :: L) A xs := h.mono fun _ h => List.mem_cons_of_mem _ h
theorem Reads.app (h : Reads L A xs) (P : List At) : Reads (P ++ L) A xs := h.mono fun _ h => List.mem_append.2 (.inr h)
theorem Reads.rdm (h : .rd A xs ∈ L) : Reads L A xs := fun _ hw => hw _ h
/-- What the other pieces read does not lie in a piece of one's own. -/
theorem Reads.far {w0 w : World} {X : List Nat} {a : At} (h : St w0 X (a :: L) w) (hr : Reads L A xs) (hx : xs ≠ []) : ∀ ad, A = some ad → ad.block ∉ a.owned := by
 intro ad hA hb
 obtain ⟨w2, hw2⟩ : ∃ w2 : World, w2 = { w with heap := w.heap.modify ad.block fun _ => .cells #[] 0 } := ⟨_, rfl⟩
 have hfr : Fr (· = ad.block) w w2 := by
  subst hw2
  refine ⟨rfl, rfl, rfl, by simp, fun b _ hne => ?_⟩
  have : ¬ ad.block = b := fun e => hne e.symm
  simp [Array.getElem?_modify, this]
 have hnd := h.nd
 simp only [ownedL, List.flatMap_cons, List.nodup_append] at hnd
 have hR := hr w2 fun a' ha' => At.fr (h.hold a' (List.mem_cons_of_mem _ ha')) hfr
  (fun b hb' e => hnd.2.2 ad.block hb b (List.mem_flatMap.2 ⟨a', ha', hb'⟩) (by rw [e]))
  (fun b _ e => by subst e; exact h.sep a' (List.mem_cons_of_mem _ ha') ad.block (by simp only [ownedL, List.flatMap_cons, List.mem_append]; exact .inl hb))
 obtain ⟨g, off, hA2, hl, hc⟩ := hR.cells hx
 rw [hA] at hA2; cases hA2
 have h0 : 0 < xs.length := List.length_pos_iff.2 hx
 have := hc 0 h0
 subst hw2
 rw [List.getElem?_eq_getElem h0] at this
 simp only [World.cell?, Array.getElem?_modify] at this
 cases hg : w.heap[g]? <;> simp [hg] at this
theorem Rd.drop {w : World} (h : Rd w A xs) (k c : Nat) (hk : k ≤ xs.length) (hc : c = k → xs.length ≤ k) : Rd w (if c = k then A else A.map (·.add k)) (xs.drop k) := by
 rcases h with rfl | ⟨g, off, rfl, h⟩
 ·exact .inl (by simp)
 ·by_cases hck : c = k
  ·exact .inl (List.drop_eq_nil_of_le (hc hck))
  ·rw [if_neg hck]
   refine .inr ⟨g, off + k, by simp [Addr.add_lit], fun i hi => ?_⟩
   rw [List.length_drop] at hi
   rw [Nat.add_assoc, h (k + i) (by omega), List.getElem?_drop]
theorem Rd.drop' {w : World} (h : Rd w A xs) (k : Nat) : Rd w (A.map (·.add k)) (xs.drop k) := by
 rcases h with rfl | ⟨g, off, rfl, h⟩
 ·exact .inl (by simp)
 ·refine .inr ⟨g, off + k, by simp [Addr.add_lit], fun i hi => ?_⟩
  rw [List.length_drop] at hi
  rw [Nat.add_assoc, h (k + i) (by omega), List.getElem?_drop]
theorem Reads.at {g o : Nat} (h : Reads L (some ⟨g, o, none⟩) xs) (k : Nat) : Reads L (some ⟨g, o + k, none⟩) (xs.drop k) := fun w hw => by
 have := Rd.drop' (h w hw) k
 simpa [Addr.add_lit] using this
theorem Reads.cell {g o : Nat} (h : Reads L (some ⟨g, o, none⟩) xs) (i : Nat) {v : Value} (hv : xs[i]? = some v) : Cell L g (o + i) v := fun w hw => by
 have hi := (List.getElem?_eq_some_iff.1 hv).1
 rcases h w hw with rfl | ⟨g', off, e, hc⟩
 ·simp at hi
 ·cases e
  rw [hc i hi, hv]
theorem Reads.cell0 {g : Nat} (h : Reads L (some ⟨g, 0, none⟩) xs) (i : Nat) {v : Value} (hv : xs[i]? = some v) : Cell L g i v := by
 have := h.cell i hv
 rwa [Nat.zero_add] at this
theorem Cell.blk (k : Nat) {g i : Nat} {t : TypeId} {l : List Value} (h : L[k]? = some (.blk g t l)) {v : Value} (hv : l[i]? = some v) : Cell L g i v := (Reads.blk k h).cell0 i hv
end
end Se
end Go.Proofs.YtakdoijemopejaaGreat
/- The operations on memory as steps of the walk, over a list of pieces. No condition but Go's own limits. -/
namespace Go.Proofs.YtakdoijemopejaaGreat
open Go Go.RowKit
namespace Se
open Li (Blk Rd Fr)
section
variable {P : Program} {w0 w : World} {X : List Nat} {L : List At} {o : Oper} {a : Act} {G : Value → World → Prop}
theorem toWp {K : Act → World → Prop} {Q : Exit → Act → World → Prop} (h : Hv.Gives P o a w (fun v w' => K (a.put o.dst v) w')) : o.wp P a w K Q := h.wp fun _ _ h => h
theorem isC {c : Code} {Q : Exit → Act → World → Prop} (h : c.wp P Q a w) : c.wp P Q a w := h
theorem isK {f : FuncId} {args : Array Value} {R : Ending → World → Prop} (h : Calls P f args w R) : Calls P f args w R := h
theorem isL {ops : Array Oper} {rest : List Oper} {Q : Exit → Act → World → Prop} (h : wpList P ops Q (o :: rest) a w) : wpList P ops Q (o :: rest) a w := h
theorem toL {ops : Array Oper} {rest : List Oper} {Q : Exit → Act → World → Prop} (hw : Region.wanted o (yielded ops a.tmps) = true) (h : Hv.Gives P o a w (fun v w' => wpList P ops Q rest (a.put o.dst v) w')) : wpList P ops Q (o :: rest) a w :=
 wpList_step fun K hK => by rw [if_pos hw]; exact h.wp fun v w' h => hK _ _ h
theorem gcall {f : FuncId} {args : Array Value} (hx : (execOp a.eval o).run P w = .ok (.enter f args) w) (h : Calls P f args w (fun e w' => ∃ v, e = .returned v ∧ G v w')) : Hv.Gives P o a w G := by
 unfold Hv.Gives; rw [hx]; exact h
/-- A piece that the walk itself has made. -/
theorem ab {ops : Array Oper} {rest : List Oper} {Q : Exit → Act → World → Prop} (hs : St w0 X L w) {l : List Value} {t : TypeId} (h : ∀ w', St w0 X (.blk w.heap.size t l :: L) w' → wpList P ops Q rest a w') : wpList P ops Q rest a (w.alloc (.cells l.toArray t)) := h _ (hs.alloc l t)
theorem abc {c : Code} {Q : Exit → Act → World → Prop} (hs : St w0 X L w) {l : List Value} {t : TypeId} (h : ∀ w', St w0 X (.blk w.heap.size t l :: L) w' → c.wp P Q a w') : c.wp P Q a (w.alloc (.cells l.toArray t)) := h _ (hs.alloc l t)
theorem run_isRow {ty : TypeId} {b : Bool} (h : (P.underlying ty).map TypeDesc.isRow = some b) (w : World) : (isAgg ty).run P w = .ok b w := by
 cases hd : P.underlying ty with
 | none => simp [hd] at h
 | some d =>
  simp only [hd, Option.map_some, Option.some.injEq] at h
  subst h
  unfold isAgg
  rw [Sem.run_bind, run_underlying hd w]
  cases d <;> rfl
theorem run_loadAt_cell {ty : TypeId} {g i : Nat} {v : Value} (hd : (P.underlying ty).map TypeDesc.isRow = some false) (hc : w.cell? ⟨g, i, none⟩ = some v) : (Instr.loadAt ty (.pointer (some ⟨g, i, none⟩))).run P w = .ok v w := by
 simp [Instr.loadAt, Instr.sureAddr, loadVar, Sem.run_bind, run_isRow hd, hc]
theorem run_storeAt_cell {ty : TypeId} {g i : Nat} {v : Value} (hi : (P.info? ty).map (·.size) = some 1) (h1 : v.oneCell' = true) (hc : (w.cell? ⟨g, i, none⟩).isSome = true) (hf : w.frozen? ⟨g, i, none⟩ = false) :
  (Instr.storeAt ty (.pointer (some ⟨g, i, none⟩)) v).run P w = .ok () (w.setCell ⟨g, i, none⟩ v) := by
 have hcs : v.cells = #[v] := by cases v <;> simp_all [Value.cells, Value.oneCell']
 obtain ⟨u, hu⟩ := Option.isSome_iff_exists.1 hc
 simp [Instr.storeAt, Instr.sureAddr, storeVar, Sem.run_bind, Li.run_size hi, hcs, storeCells, run_store P _ _ _ _ h1, hu, hf, Addr.add_lit]
/-- A cell is loaded. -/
theorem ld (hs : St w0 X L w) {ty : TypeId} {x : Operand} (ho : o.op = .load ty x) {g i : Nat} (hx : a.eval x = .pointer (some ⟨g, i, none⟩)) {v : Value} (hc : Cell L g i v) (hd : (P.underlying ty).map TypeDesc.isRow = some false) (hk : G v w) : Hv.Gives P o a w G := by
 unfold Hv.Gives execOp
 simp only [ho, hx, Sem.run_bind, run_loadAt_cell hd (hc w hs.hold), Result.andThen_ok, Sem.run_pure]
 exact hk
/-- A whole value of several cells is loaded. -/
theorem lda (hs : St w0 X L w) {ty : TypeId} {x : Operand} (ho : o.op = .load ty x) {g i : Nat} (hx : a.eval x = .pointer (some ⟨g, i, none⟩)) {xs : List Value} (hr : Reads L (some ⟨g, i, none⟩) xs) {n : Nat} (hi : (P.info? ty).map (·.size) = some n) (hd : (P.underlying ty).map TypeDesc.isRow = some true) (hn : n ≤ xs.length) (hk : G (.agg (xs.take n).toArray) w) : Hv.Gives P o a w G := by
 cases hu : P.underlying ty with
 | none => simp [hu] at hd
 | some d =>
  simp only [hu, Option.map_some, Option.some.injEq] at hd
  have hc : w.rangeAt g i (xs.take n) := by
   intro j v hv
   have hj := (List.getElem?_eq_some_iff.1 hv).1
   rw [List.length_take] at hj
   rw [List.getElem?_take_of_lt (by omega)] at hv
   exact hr.cell j hv w hs.hold
  have hr2 := run_loadAt_mid (P := P) w g i ty (xs.take n) d hc hu hd (by simpa [Nat.min_eq_left hn] using hi)
  unfold Hv.Gives execOp
  simp only [ho, hx, Sem.run_bind, hr2, Result.andThen_ok, Sem.run_pure]
  exact hk
/-- As 'lda': what is read is known to the last cell. -/
theorem ldw (hs : St w0 X L w) {ty : TypeId} {x : Operand} (ho : o.op = .load ty x) {g i : Nat} (hx : a.eval x = .pointer (some ⟨g, i, none⟩)) {xs : List Value} (hr : Reads L (some ⟨g, i, none⟩) xs) (hi : (P.info? ty).map (·.size) = some xs.length) (hd : (P.underlying ty).map TypeDesc.isRow = some true) (hk : G (.agg xs.toArray) w) : Hv.Gives P o a w G :=
 lda hs ho hx hr hi hd (Nat.le_refl _) (by rw [List.take_length]; exact hk)
theorem St.turnAt (k : Nat) {p p' : At} (hk : L[k]? = some p) (hs : St w0 X L w) {w' : World} (f : Fr (· ∈ p.owned) w w') (hp : p'.holds w') (hr : p'.noRd) (hn : p'.owned.Nodup) (hm : ∀ b ∈ p'.owned, b ∈ p.owned ∨ w.heap.size ≤ b) : St w0 X (L.set k p') w' := by
 refine St.put k hk ?_
 exact St.turn (P := [p]) (P' := [p']) (hs.pull k hk) (by simpa [ownedL] using f) (by simpa using hp) (by simpa using hr) (by simpa [ownedL] using hn) (by simpa [ownedL] using hm)
theorem St.setAt (k : Nat) {g : Nat} {t : TypeId} {l : List Value} (hk : L[k]? = some (.blk g t l)) (hs : St w0 X L w) (i : Nat) (v : Value) : St w0 X (L.set k (.blk g t (l.set i v))) (w.setCell ⟨g, i, none⟩ v) :=
 St.turnAt k hk hs ((Fr.refl _ w).setCell (by simp [At.owned]) _ _) (Blk.set (hs.hold _ (List.mem_of_getElem? hk)) i v) trivial (by simp [At.owned]) (by simp [At.owned])
theorem St.setsAt (k : Nat) {g : Nat} {t : TypeId} {l : List Value} (hk : L[k]? = some (.blk g t l)) (hs : St w0 X L w) (i : Nat) (vs : List Value) (hl : i + vs.length ≤ l.length) : St w0 X (L.set k (.blk g t (l.take i ++ vs ++ l.drop (i + vs.length)))) (w.setCells g i vs) :=
 St.turnAt k hk hs ((Fr.refl _ w).setCells (by simp [At.owned]) _ _) (Blk.setCells vs i (hs.hold _ (List.mem_of_getElem? hk)) hl) trivial (by simp [At.owned]) (by simp [At.owned])
/-- A cell is stored. -/
theorem so (k : Nat) (hs : St w0 X L w) {ty : TypeId} {x y : Operand} (ho : o.op = .store ty x y) {g i : Nat} (hx : a.eval x = .pointer (some ⟨g, i, none⟩)) {t : TypeId} {l : List Value} (hk : L[k]? = some (.blk g t l)) {v : Value} (hy : a.eval y = v) (h1 : v.oneCell' = true) (hi : (P.info? ty).map (·.size) = some 1) (hl : i < l.length)
  (h : ∀ w', St w0 X (L.set k (.blk g t (l.set i v))) w' → G undef w') : Hv.Gives P o a w G := by
 have hb : Blk w g l t := hs.hold _ (List.mem_of_getElem? hk)
 have hr := run_storeAt_cell (P := P) (w := w) (g := g) (i := i) (v := v) hi h1 (by rw [hb.cell]; simp [hl]) (hb.frozen i)
 unfold Hv.Gives execOp
 simp only [ho, hx, hy, Sem.run_bind, hr, Result.andThen_ok, Sem.run_pure]
 exact h _ (St.setAt k hk hs i v)
/-- A value of several cells is stored. -/
theorem soa (k : Nat) (hs : St w0 X L w) {ty : TypeId} {x y : Operand} (ho : o.op = .store ty x y) {g i : Nat} (hx : a.eval x = .pointer (some ⟨g, i, none⟩)) {t : TypeId} {l : List Value} (hk : L[k]? = some (.blk g t l)) {vs : List Value} (hy : a.eval y = .agg vs.toArray) (h1 : ∀ v ∈ vs, v.oneCell' = true) (hi : (P.info? ty).map (·.size) = some vs.length) (hl : i + vs.length ≤ l.length)
  (h : ∀ w', St w0 X (L.set k (.blk g t (l.take i ++ vs ++ l.drop (i + vs.length)))) w' → G undef w') : Hv.Gives P o a w G := by
 have hb : Blk w g l t := hs.hold _ (List.mem_of_getElem? hk)
 have hr := run_storeVar_mid (P := P) w g i ty vs.toArray (hb.there (by simpa using hl)) (by simpa using hi) (all_oneCell_toArray h1)
 unfold Hv.Gives execOp
 simp only [ho, hx, hy, Instr.storeAt, Instr.sureAddr, Sem.run_bind, Sem.run_pure, Result.andThen_ok, hr]
 exact h _ (St.setsAt k hk hs i vs hl)
/-- The whole block is stored. -/
theorem sow (k : Nat) (hs : St w0 X L w) {ty : TypeId} {x y : Operand} (ho : o.op = .store ty x y) {g : Nat} (hx : a.eval x = .pointer (some ⟨g, 0, none⟩)) {t : TypeId} {l : List Value} (hk : L[k]? = some (.blk g t l)) {vs : List Value} (hy : a.eval y = .agg vs.toArray) (h1 : ∀ v ∈ vs, v.oneCell' = true) (hi : (P.info? ty).map (·.size) = some vs.length) (hl : vs.length = l.length)
  (h : ∀ w', St w0 X (L.set k (.blk g t vs)) w' → G undef w') : Hv.Gives P o a w G :=
 soa k hs ho hx hk hy h1 hi (by omega) fun w' hw => h w' (by simpa [hl] using hw)
theorem al (hs : St w0 X L w) {ty : TypeId} (ho : o.op = .alloc ty) {l : List Value} (hz : (P.info? ty).bind (fun i => i.zero.map (·.cells.toList)) = some l)
  (h : ∀ (w' : World) (g : Nat), g = w.heap.size → St w0 X (.blk g ty l :: L) w' → G (.pointer (some ⟨g, 0, none⟩)) w') : Hv.Gives P o a w G := by
 cases hi : P.info? ty with
 | none => simp [hi] at hz
 | some i =>
  cases hz0 : i.zero with
  | none => simp [hi, hz0] at hz
  | some z =>
   simp only [hi, hz0, Option.bind_some, Option.map_some, Option.some.injEq] at hz
   subst hz
   have hr : (Instr.alloc ty true (.tuple #[])).run P w = .ok (.pointer (some ⟨w.heap.size, 0, none⟩)) (w.alloc (.cells z.cells ty)) := by
    simp [Instr.alloc, zeroValue, typeInfo, hi, hz0, newVar, newRow]
   unfold Hv.Gives execOp
   simp only [ho, Sem.run_bind, hr, Result.andThen_ok, Sem.run_pure]
   exact h _ _ rfl (by simpa using hs.alloc z.cells.toList ty)
theorem bx (hs : St w0 X L w) {ty : TypeId} {x : Operand} (ho : o.op = .box ty x) {v : Value} (hx : a.eval x = v) {l : List Value} (hl : v.cells.toList = l)
  (h : ∀ (w' : World) (g : Nat), g = w.heap.size → St w0 X (.blk g ty l :: L) w' → G (.pointer (some ⟨g, 0, none⟩)) w') : Hv.Gives P o a w G := by
 subst hl
 have hr : (Instr.box ty v).run P w = .ok (.pointer (some ⟨w.heap.size, 0, none⟩)) (w.alloc (.cells v.cells ty)) := by
  simp [Instr.box, newVar, newRow]
 unfold Hv.Gives execOp
 simp only [ho, hx, Sem.run_bind, hr, Result.andThen_ok, Sem.run_pure]
 exact h _ _ rfl (by simpa using hs.alloc v.cells.toList ty)
theorem bs (hs : St w0 X L w) {ty : TypeId} {n : Nat} {parts : Array (Nat × Operand)} (ho : o.op = .buildSlice ty n parts) {e : TypeId} (ht : P.underlying ty = some (.slice e)) {z : Value} {s : Nat} (hi : (P.info? e).map (fun i => (i.zero, i.size)) = some (some z, s)) (hb : n * s ≤ 16777216) (h0 : n * s ≠ 0) {cs : Array Value}
  (hf : Instr.fill (fun i => some (i * s, s)) ((Array.range (n * s)).map (z.cells[· % z.cells.size]!)) (parts.map fun (i, x) => (i, a.eval x)).toList = some cs)
  (h : ∀ (w' : World) (g : Nat), g = w.heap.size → St w0 X (.blk g e cs.toList :: L) w' → G (.slice (some ⟨g, 0, none⟩) n n) w') : Hv.Gives P o a w G := by
 cases hq : P.info? e with
 | none => simp [hq] at hi
 | some i =>
  simp only [hq, Option.map_some, Option.some.injEq, Prod.mk.injEq] at hi
  have hr : (Instr.buildSlice ty n (parts.map fun (i, x) => (i, a.eval x))).run P w = .ok (.slice (some ⟨w.heap.size, 0, none⟩) n n) (w.alloc (.cells cs e)) := by
   simp only [Instr.buildSlice, Sem.run_bind, run_underlying ht, Result.andThen_ok, sizeOf, typeInfo, run_program, hq, Sem.run_pure, hi.2, show ¬ (n * s > 2 ^ 24) by omega, if_false, if_neg h0, zeroValue, hi.1, hf, newRow, run_newObj]
   rfl
  unfold Hv.Gives execOp
  simp only [ho, Sem.run_bind, hr, Result.andThen_ok, Sem.run_pure]
  exact h _ _ rfl (by simpa using hs.alloc cs.toList e)
theorem bs0 (hs : St w0 X L w) {ty : TypeId} (ho : o.op = .buildSlice ty 0 #[]) {e : TypeId} (ht : P.underlying ty = some (.slice e)) (hi : (P.info? e).isSome = true)
  (h : ∀ (w' : World) (g : Nat), g = w.heap.size → St w0 X (.blk g e [] :: L) w' → G (.slice (some ⟨g, 0, none⟩) 0 0) w') : Hv.Gives P o a w G := by
 obtain ⟨i, hq⟩ := Option.isSome_iff_exists.1 hi
 have hr : (Instr.buildSlice ty 0 #[]).run P w = .ok (.slice (some ⟨w.heap.size, 0, none⟩) 0 0) (w.alloc (.cells #[] e)) := by
  simp [Instr.buildSlice, Sem.run_bind, run_underlying ht, sizeOf, typeInfo, hq, Instr.fill, newRow]
  rw [show (Array.range 0) = #[] from rfl, Array.map_empty]
 unfold Hv.Gives execOp
 simp only [ho, List.map_toArray, List.map_nil, Sem.run_bind, hr, Result.andThen_ok, Sem.run_pure]
 exact h _ _ rfl (by simpa using hs.alloc [] e)
theorem mk (hs : St w0 X L w) {ty : TypeId} {x y : Operand} (ho : o.op = .makeSlice ty x y) {e : TypeId} (ht : P.underlying ty = some (.slice e)) {z : Value} {s b : Nat} (hi : (P.info? e).map (fun i => (i.zero, i.size, i.bytes)) = some (some z, s, b)) (hz : z.cells.size = s) (n m : Nat) {u v : Int} (hx : a.eval x = .int .i64 u) (hy : a.eval y = .int .i64 v) (hu : u = (n : Int)) (hv : v = (m : Int)) (hnm : n ≤ m) (hb : b * m ≤ 281474976710656) (h63 : m ≤ 9223372036854775807)
  (h : ∀ (w' : World) (g : Nat), g = w.heap.size → St w0 X (.blk g e (List.replicate m z.cells.toList).flatten :: L) w' → G (.slice (some ⟨g, 0, none⟩) n m) w') : Hv.Gives P o a w G := by
 subst hu hv
 cases hq : P.info? e with
 | none => simp [hq] at hi
 | some i =>
  simp only [hq, Option.map_some, Option.some.injEq, Prod.mk.injEq] at hi
  obtain ⟨h1, h2, h3⟩ := hi
  have hbI : (i.bytes : Int) * (m : Int) ≤ 281474976710656 := by
   have : ((i.bytes * m : Nat) : Int) ≤ 281474976710656 := by rw [h3]; omega
   rwa [Int.natCast_mul] at this
  have hr := run_make (P := P) w ty e i z ht hq h1 .i64 .i64 n m (by omega) (by omega) hbI (by omega)
  simp only [Int.toNat_natCast, h2] at hr
  have hmade : (madeCells z.cells (m * s)).toList = (List.replicate m z.cells.toList).flatten := by
   subst hz
   have lf : (List.replicate m z.cells.toList).flatten.length = m * z.cells.size := by simp [List.length_flatten]
   apply List.ext_getElem
   ·unfold madeCells; simp
   ·intro j h1 h2
    rw [lf] at h2
    unfold madeCells
    have hsz : 0 < z.cells.size := by
     rcases Nat.eq_zero_or_pos z.cells.size with h0 | h0
     ·rw [h0] at h2; simp at h2
     ·exact h0
    have key : ∀ (m j : Nat) (hj : j < (List.replicate m z.cells.toList).flatten.length), (List.replicate m z.cells.toList).flatten[j] = z.cells[j % z.cells.size]'(Nat.mod_lt _ hsz) := by
     intro m
     induction m with
     | zero => intro j hj; simp at hj
     | succ m ih =>
      intro j hj
      simp only [List.replicate_succ, List.flatten_cons]
      by_cases hlt : j < z.cells.size
      ·rw [List.getElem_append_left (by simpa using hlt)]
       simp [Nat.mod_eq_of_lt hlt]
      ·rw [List.getElem_append_right (by simpa using hlt), ih]
       simp only [Array.length_toList]
       congr 1
       exact (Nat.mod_eq_sub_mod (by omega)).symm
    rw [key]
    have hm : j % z.cells.size < z.cells.size := Nat.mod_lt _ hsz
    simp [hm]
  unfold Hv.Gives execOp
  simp only [ho, hx, hy, Sem.run_bind, hr, Result.andThen_ok, Sem.run_pure]
  refine h _ _ rfl ?_
  have := hs.alloc (madeCells z.cells (m * s)).toList e
  rw [hmade] at this
  have e2 : (List.replicate m z.cells.toList).flatten.toArray = madeCells z.cells (m * s) := by rw [← hmade]
  rw [e2] at this
  exact this
/-- append: what is appended is read somewhere else. -/
theorem run_append_ow {t ty e : TypeId} {z : Value} {s b : Nat} (ht : P.underlying t = some (.slice e)) (hinfo : (P.info? e).map (fun i => (i.zero, i.size, i.bytes)) = some (some z, s, b)) (hz : z.cells.size = s) (hs0 : 0 < s)
  {r : Option Nat} {A B : Option Addr} {c n m cy : Nat} {xs ys : List Value} (hO : Ow w s r A n c xs) (hR : Rd w B ys) (hy : ∀ v ∈ ys, v.oneCell' = true) (hm : ys.length = m * s) (hle : (n + m) * b ≤ 140737488355328) (h63 : n + m ≤ 4611686018427387904) :
  ∃ A' c' r' w', (Builtin.append_ #[t, t] ty #[.slice A n c, .slice B m cy]).run P w = .ok (.slice A' (n + m) c') w' ∧ Ow w' s r' A' (n + m) c' (xs ++ ys) ∧ w.grownBy w' r ∧ (r' = r ∨ r' = some w.heap.size) := by
 cases hi : P.info? e with
 | none => simp [hi] at hinfo
 | some i =>
  simp only [hi, Option.map_some, Option.some.injEq, Prod.mk.injEq] at hinfo
  obtain ⟨hz1, hs1, hby⟩ := hinfo
  obtain ⟨hxl, hnc, hcase⟩ := hO
  by_cases hy0 : ys = []
  ·subst hy0
   have hm0 : m = 0 := by
    rcases Nat.eq_zero_or_pos m with h | h
    ·exact h
    ·have := Nat.mul_pos h hs0; simp at hm; omega
   subst hm0
   have hsrc : Src P i.size t (.slice B 0 cy) 0 [] w := ⟨.inl ⟨e, ht⟩, fun w' => by simp [Builtin.lenOf], by cases B <;> simp [Builtin.firstCells, loadCells, loadCellsFrom], by cases B <;> simp [Builtin.firstCells, loadCells, loadCellsFrom], by simp, by simp⟩
   have hr := run_append_nothing (P := P) w t t ty e i ht hi A n c hnc (.slice B 0 cy) hsrc
   exact ⟨A, c, r, w, by simpa using hr, by simpa using ⟨hxl, hnc, hcase⟩, ⟨rfl, rfl, rfl, Nat.le_refl _, fun _ _ _ => rfl⟩, .inl rfl⟩
  ·obtain ⟨g2, o2, rfl, _, hc2⟩ := hR.cells hy0
   have hp : 0 < m := by
    rcases Nat.eq_zero_or_pos m with h | h
    ·subst h; simp at hm; exact absurd hm hy0
    ·exact h
   have hnews : ∀ j u, ys[j]? = some u → w.cell? ((⟨g2, o2, none⟩ : Addr).add j) = some u := fun j u hu => by
    rw [Addr.add_lit, hc2 j (List.getElem?_eq_some_iff.1 hu).1]; exact hu
   have hmax : (maxLen : Nat) = 9223372036854775807 := rfl
   have hge := grownCap_ge w (n + m) c e
   have hcm := grownCap_le_maxLen w (n + m) c e (by omega)
   by_cases hroom : n + m ≤ c
   ·rcases hcase with ⟨rfl, rfl⟩ | ⟨g, off, l, t', rfl, rfl, hb, hl, hmx, hx⟩
    ·omega
    ·have hcs : n * s + m * s ≤ c * s := by rw [← Nat.add_mul]; exact Nat.mul_le_mul_right _ hroom
     have hr := run_append_room_cells (P := P) w t ty e i ht hi g off n c ⟨g2, o2, none⟩ m cy ys (by rw [hs1]; exact hm) hnews hy hroom
      (fun j hj => by rw [hb.cell, hs1]; simp; omega) (fun j hj => hb.frozen _)
     rw [hs1] at hr
     refine ⟨_, _, some g, _, hr, ⟨by rw [List.length_append, hxl, hm, Nat.add_mul], hroom, .inr ⟨g, off, _, t', rfl, rfl, hb.setCells ys (off + n * s) (by omega), ?_, hmx, ?_⟩⟩, ⟨?_, ?_, ?_, ?_, ?_⟩, .inl rfl⟩
     ·simp only [List.length_append, List.length_take, List.length_drop]; omega
     ·have e1 : (l.take (off + n * s) ++ ys ++ l.drop (off + n * s + ys.length)).drop off = xs ++ ys ++ l.drop (off + n * s + ys.length) := by
       rw [List.append_assoc, List.drop_append_of_le_length (by rw [List.length_take]; omega), List.drop_take, Nat.add_sub_cancel_left, hx, List.append_assoc]
      rw [e1, Nat.add_mul, ← hxl, ← hm, ← List.length_append]
      exact List.take_left
     ·exact (Li.below_setCells ys _ w g (Below.refl 0 w) (Nat.zero_le _)).os
     ·exact (Li.below_setCells ys _ w g (Below.refl 0 w) (Nat.zero_le _)).tape
     ·exact (Li.below_setCells ys _ w g (Below.refl 0 w) (Nat.zero_le _)).output
     ·rw [Li.size_setCells]; exact Nat.le_refl _
     ·intro k _ hk
      exact Li.heap_setCells_other ys _ w g k (fun h => hk (by rw [h]))
   ·have hx2 : xs.length = n * i.size := by rw [hs1, hxl]
    have hy2 : ys.length = m * i.size := by rw [hs1, hm]
    have hgrown : ∀ (q : Nat) (cs : Array Value) (hq : n + m ≤ q) (hqm : q ≤ maxLen) (hcs : cs.size = q * s) (hpre : cs.toList.take ((n + m) * s) = xs ++ ys),
      Ow (w.drew.alloc (.cells cs e)) s (some w.heap.size) (some ⟨w.heap.size, 0, none⟩) (n + m) q (xs ++ ys) ∧ w.grownBy (w.drew.alloc (.cells cs e)) r := by
     intro q cs hq hqm hcs hpre
     refine ⟨⟨by rw [List.length_append, hxl, hm, Nat.add_mul], hq, .inr ⟨w.heap.size, 0, cs.toList, e, rfl, rfl, ?_, by simp [hcs], hqm, by rw [List.drop_zero]; exact hpre⟩⟩, ⟨rfl, rfl, rfl, by simp, fun k hk _ => Below.heap_alloc w.drew _ k hk⟩⟩
     exact Blk.new w.drew cs.toList e
    have holdsA : ∀ ad, A = some ad → ∀ j v, xs[j]? = some v → w.cell? (ad.add j) = some v := by
     intro ad hA j v hv
     rcases Ow.rd ⟨hxl, hnc, hcase⟩ with rfl | ⟨g, off, h1, h2⟩
     ·simp at hv
     ·rw [hA] at h1; cases h1
      rw [Addr.add_lit, h2 j (List.getElem?_eq_some_iff.1 hv).1]; exact hv
    cases A with
    | some ad =>
     have hr := run_append_grow (P := P) w t ty e i z ht hi hz1 ad n c xs hx2 (holdsA ad rfl) ⟨g2, o2, none⟩ m cy ys hy2 hnews (by omega) (by omega) (growslice_fits (by omega) (by rw [hby]; omega))
     obtain ⟨k1, k2⟩ := hgrown (grownCap w (n + m) c e) (xs.toArray ++ ys.toArray ++ Builtin.zeroCells z.cells (grownCap w (n + m) c e - (n + m))) hge hcm
      (by
       simp only [Array.size_append, List.size_toArray, size_zeroCells, hz, hxl, hm]
       rw [← Nat.add_mul, ← Nat.add_mul]; congr 1; omega)
      (by
       simp only [Array.toList_append, List.append_assoc]
       rw [← List.append_assoc, Nat.add_mul, ← hxl, ← hm, ← List.length_append]; exact List.take_left)
     exact ⟨_, _, _, _, hr, k1, k2, .inr rfl⟩
    | none =>
     have h0 : c = 0 ∧ r = none := by
      rcases hcase with h | ⟨g, off, l, t, h, _⟩
      ·exact h
      ·cases h
     obtain ⟨rfl, rfl⟩ := h0
     obtain rfl : n = 0 := by omega
     obtain rfl : xs = [] := List.eq_nil_of_length_eq_zero (by simpa using hxl)
     have hr := run_append_nil (P := P) w t ty e i z ht hi hz1 ⟨g2, o2, none⟩ m cy ys hy2 hnews hp (by omega) (by rw [hby]; simp at hle; omega)
     obtain ⟨k1, k2⟩ := hgrown (grownCap w m 0 e) (ys.toArray ++ Builtin.zeroCells z.cells (grownCap w m 0 e - m)) (by simpa using hge) (by simpa using hcm)
      (by
       simp only [Array.size_append, List.size_toArray, size_zeroCells, hz, hm]
       rw [← Nat.add_mul]; congr 1
       have : m ≤ grownCap w m 0 e := by simpa using hge
       omega)
      (by simp only [Array.toList_append, Nat.zero_add, List.nil_append, ← hm]; exact List.take_left)
     exact ⟨_, _, _, _, by simpa using hr, k1, k2, .inr rfl⟩
theorem St.appendAt (k : Nat) {s : Nat} {r r' : Option Nat} {A A' : Option Addr} {n n' c c' : Nat} {xs ys : List Value} (hk : L[k]? = some (.own s r A n c xs)) (hs : St w0 X L w) {w' : World} (hO : Ow w' s r' A' n' c' ys) (hg : w.grownBy w' r) (hr : r' = r ∨ r' = some w.heap.size) : St w0 X (L.set k (.own s r' A' n' c' ys)) w' := by
 refine St.turnAt k hk hs (Fr.grown hg fun g hg => by simp [At.owned, hg]) hO trivial (by cases r' <;> simp [At.owned]) ?_
 intro b hb
 rcases hr with rfl | rfl
 ·exact .inl hb
 ·simp [At.owned] at hb ⊢; omega
theorem ap (k : Nat) (hs : St w0 X L w) {x y : Operand} {t e : TypeId} (ho : o.op = .call { callee := .builtin .append, args := #[x, y], argTypes := #[t, t] })
  {s : Nat} {r : Option Nat} {A B : Option Addr} {n c m cy : Nat} (hx : a.eval x = .slice A n c) (hy : a.eval y = .slice B m cy) {xs : List Value} (hk : L[k]? = some (.own s r A n c xs)) {ys : List Value} (hr : Reads L B ys)
  {z : Value} {b : Nat} (ht : P.underlying t = some (.slice e)) (hinfo : (P.info? e).map (fun i => (i.zero, i.size, i.bytes)) = some (some z, s, b)) (hz : z.cells.size = s) (hs0 : 0 < s)
  (h1 : ∀ v ∈ ys, v.oneCell' = true) (hm : ys.length = m * s) (hle : (n + m) * b ≤ 140737488355328) (h63 : n + m ≤ 4611686018427387904)
  (h : ∀ (w' : World) (r' : Option Nat) (A' : Option Addr) (c' : Nat), St w0 X (L.set k (.own s r' A' (n + m) c' (xs ++ ys))) w' → G (.slice A' (n + m) c') w') : Hv.Gives P o a w G := by
 obtain ⟨A', c', r', w', hr, h2, h3, h4⟩ := run_append_ow (P := P) (ty := o.type) (cy := cy) ht hinfo hz hs0 (hs.hold _ (List.mem_of_getElem? hk)) (hr w hs.hold) h1 hm hle h63
 unfold Hv.Gives execOp
 simp only [ho, resolve, invoke, builtin, Sem.run_bind, Sem.run_pure, Result.andThen_ok, List.map_toArray, List.map_cons, List.map_nil, hx, hy, hr]
 exact h w' r' A' c' (St.appendAt k hk hs h2 h3 h4)
/-- copy into a block of one's own. -/
theorem cp (k : Nat) (hs : St w0 X L w) {x y : Operand} {t u e : TypeId} (ho : o.op = .call { callee := .builtin .copy, args := #[x, y], argTypes := #[t, u] })
  {g off n c m cy : Nat} {B : Option Addr} (hx : a.eval x = .slice (some ⟨g, off, none⟩) n c) (hy : a.eval y = .slice B m cy) {te : TypeId} {l : List Value} (hk : L[k]? = some (.blk g te l)) {ys : List Value} (hr : Reads L B ys)
  (ht : P.underlying t = some (.slice e)) (hi : (P.info? e).map (·.size) = some 1) (h1 : ∀ v ∈ ys, v.oneCell' = true) (hm : ys.length = m) (hl : off + n ≤ l.length)
  (h : ∀ (w' : World), St w0 X (L.set k (.blk g te (l.take off ++ (ys.take n ++ l.drop (off + (ys.take n).length))))) w' → G (goInt (ys.take n).length) w') : Hv.Gives P o a w G := by
 have hb : Blk w g l te := hs.hold _ (List.mem_of_getElem? hk)
 have hlen : (ys.take n).length = Nat.min m n := by rw [List.length_take, hm, Nat.min_comm]
 by_cases h0 : ys.take n = []
 ·have hn0 : Nat.min m n = 0 := by rw [← hlen, h0]; rfl
  have hrun := run_copy_none (P := P) w t u o.type e (some ⟨g, off, none⟩) B n c m cy ht hi hn0
  unfold Hv.Gives execOp
  simp only [ho, resolve, invoke, builtin, Sem.run_bind, Sem.run_pure, Result.andThen_ok, List.map_toArray, List.map_cons, List.map_nil, hx, hy, hrun]
  have := h w (by
   rw [h0]
   simp only [List.length_nil, Nat.add_zero, List.nil_append, List.take_append_drop]
   exact St.turnAt k hk hs (Fr.refl _ w) hb trivial (by simp [At.owned]) (by simp [At.owned]))
  rw [h0] at this
  exact this
 ·have hne : ys ≠ [] := fun h => h0 (by simp [h])
  obtain ⟨g2, o2, rfl, _, hc2⟩ := (hr w hs.hold).cells hne
  have hrun := run_copy_row (P := P) w t u o.type e g off n c ⟨g2, o2, none⟩ m cy l.toArray te (ys.take n) ht hi hb hlen
   (fun j v hv => by
    have hj := (List.getElem?_eq_some_iff.1 hv).1
    rw [List.length_take] at hj
    rw [List.getElem?_take_of_lt (by omega)] at hv
    rw [Addr.add_lit, hc2 j (by omega)]; exact hv)
   (by simp only [List.size_toArray]; rw [List.length_take]; omega) (fun v hv => h1 v (List.mem_of_mem_take hv))
  unfold Hv.Gives execOp
  simp only [ho, resolve, invoke, builtin, Sem.run_bind, Sem.run_pure, Result.andThen_ok, List.map_toArray, List.map_cons, List.map_nil, hx, hy, hrun]
  refine h _ ?_
  refine St.turnAt k hk hs ⟨rfl, rfl, rfl, by simp [World.setRow], fun b _ hX => setRow_other w g b _ (by simpa [At.owned] using hX)⟩ ?_ trivial (by simp [At.owned]) (by simp [At.owned])
  have e := setRow_heap w g l.toArray ((l.take off ++ (ys.take n ++ l.drop (off + (ys.take n).length))).toArray) te (0, 0) hb
  rw [← List.append_assoc] at e ⊢
  exact e
theorem Ow.at_ {w : World} {s : Nat} {r : Option Nat} {A : Option Addr} {n c : Nat} {xs : List Value} (h : Ow w s r A n c xs) (hn : 0 < n) : ∃ g off, A = some ⟨g, off, none⟩ ∧ r = some g := by
 obtain ⟨h1, h2, h | ⟨g, off, l, t, hA, hr, _⟩⟩ := h
 ·omega
 ·exact ⟨g, off, hA, hr⟩
theorem St.own_at (k : Nat) {s : Nat} {r : Option Nat} {A : Option Addr} {n c : Nat} {xs : List Value} (hs : St w0 X L w) (hk : L[k]? = some (.own s r A n c xs)) (hn : 0 < n) : ∃ g off, A = some ⟨g, off, none⟩ ∧ r = some g := (show Ow w s r A n c xs from hs.hold _ (List.mem_of_getElem? hk)).at_ hn
theorem Ow.set {w : World} {s g off n c i : Nat} {xs : List Value} (h : Ow w s (some g) (some ⟨g, off, none⟩) n c xs) (hi : i < xs.length) (v : Value) : Ow (w.setCell ⟨g, off + i, none⟩ v) s (some g) (some ⟨g, off, none⟩) n c (xs.set i v) ∧ (w.cell? ⟨g, off + i, none⟩).isSome = true ∧ w.frozen? ⟨g, off + i, none⟩ = false := by
 obtain ⟨h1, h2, h | ⟨g', off', l, t, hA, hr, hb, h3, h4, h5⟩⟩ := h
 ·have : n = 0 := by omega
  subst this; omega
 ·cases hA; cases hr
  have hns : n * s ≤ c * s := Nat.mul_le_mul_right _ h2
  refine ⟨⟨by simpa using h1, h2, .inr ⟨g, off, l.set (off + i) v, t, rfl, rfl, hb.set _ v, by simpa using h3, h4, ?_⟩⟩, ?_, hb.frozen _⟩
  ·rw [List.drop_set, if_neg (by omega), Nat.add_sub_cancel_left, List.take_set, h5]
  ·rw [hb.cell]
   simp; omega
/-- A cell of a slice of one's own is stored. -/
theorem soo (k : Nat) (hs : St w0 X L w) {ty : TypeId} {x y : Operand} (ho : o.op = .store ty x y) {g off i : Nat} (hx : a.eval x = .pointer (some ⟨g, off + i, none⟩)) {s n c : Nat} {xs : List Value} (hk : L[k]? = some (.own s (some g) (some ⟨g, off, none⟩) n c xs)) {v : Value} (hy : a.eval y = v) (h1 : v.oneCell' = true) (hi : (P.info? ty).map (·.size) = some 1) (hl : i < xs.length)
  (h : ∀ w', St w0 X (L.set k (.own s (some g) (some ⟨g, off, none⟩) n c (xs.set i v))) w' → G undef w') : Hv.Gives P o a w G := by
 obtain ⟨e1, e2, e3⟩ := Ow.set (hs.hold _ (List.mem_of_getElem? hk)) hl v
 have hr := run_storeAt_cell (P := P) (w := w) (g := g) (i := off + i) (v := v) hi h1 e2 e3
 unfold Hv.Gives execOp
 simp only [ho, hx, hy, Sem.run_bind, hr, Result.andThen_ok, Sem.run_pure]
 exact h _ (St.turnAt k hk hs ((Fr.refl _ w).setCell (by simp [At.owned]) _ _) e1 trivial (by simp [At.owned]) (by simp [At.owned]))
/-- A new slice of one's own. -/
theorem St.ofOs (hs : St w0 X L w) {w' : World} {t : TypeId} {r : Option Nat} {A : Option Addr} {n c : Nat} {xs : List Value} (ho : Li.Os w' t r A c xs) (hb : Below w.heap.size w w') (hr : r = none ∨ w.heap.size ≤ r.getD 0) (hn : n = xs.length) : St w0 X (.own 1 r A n c xs :: L) w' := by
 subst hn
 refine St.turn (P := []) (P' := [.own 1 r A xs.length c xs]) hs (Fr.ext hb) ?_ (by simp [At.noRd]) (by cases r <;> simp [ownedL, At.owned]) ?_
 ·simp only [List.mem_singleton, forall_eq, At.holds]
  have hle := ho.le
  rcases ho with ⟨rfl, rfl, rfl⟩ | ⟨g, off, l, h1, h2, h3, h4, h5, h6, h7⟩
  ·exact ⟨by simp, by simp, .inl ⟨rfl, rfl⟩⟩
  ·exact ⟨by simp, hle, .inr ⟨g, off, l, t, h1, h2, h3, by simpa using h4, h6, by simpa using h7⟩⟩
 ·intro b hb
  simp only [ownedL, List.flatMap_cons, List.flatMap_nil, List.append_nil, At.owned] at hb ⊢
  rcases hr with rfl | hr
  ·simp at hb
  ·cases r with
   | none => simp at hb
   | some g => simp at hb hr; subst hb; exact .inr hr
theorem run_eqItems_self (d : Nat) {e : TypeId} {k : IntKind} (he : P.underlying e = some (.int k)) (l : List Value) : ∀ (is : List Nat), (∀ i ∈ is, ∃ z, l[i]? = some (.int k z)) → (Op.eqItems (d + 1) e 1 l.toArray l.toArray is).run P w = .ok true w
 | [], _ => by simp [Op.eqItems]
 | i :: is, h => by
  obtain ⟨z, hz⟩ := h i List.mem_cons_self
  have hp : (part e l.toArray (i * 1)).run P w = .ok (.int k z) w := by
   have hr : (isAgg e).run P w = .ok false w := run_isRow (by rw [he]; rfl) w
   simp [part, hr, hz]
  have ih := run_eqItems_self d he l is fun j hj => h j (List.mem_cons_of_mem _ hj)
  simp only [Op.eqItems, Sem.run_bind, hp, Result.andThen_ok, run_equalIn_int _ _ _ _ _ _ _ he]
  simpa using ih
theorem run_eql_self {t e : TypeId} {n : Nat} {k : IntKind} (ht : P.underlying t = some (.array n e)) (he : P.underlying e = some (.int k)) (hc : P.cellsOf e = 1) (hi : (P.info? e).isSome = true) (l : List Value) (hl : ∀ i, i < n → ∃ z, l[i]? = some (.int k z)) :
  (Op.equalIn 10000 t (.agg l.toArray) (.agg l.toArray)).run P w = .ok true w := by
 obtain ⟨i, hi⟩ := Option.isSome_iff_exists.1 hi
 rw [run_equalIn_array w 9999 l.toArray l.toArray ht hi, hc]
 exact run_eqItems_self 9998 he l (List.range n) fun j hj => hl j (List.mem_range.1 hj)
/-- Two equal arrays of integers. -/
theorem eqa {t u : TypeId} {x y : Operand} (ho : o.op = .binOp .eql t x y u) {l : List Value} (hx : a.eval x = .agg l.toArray) (hy : a.eval y = .agg l.toArray) {e : TypeId} {n : Nat} {k : IntKind} (ht : P.underlying t = some (.array n e)) (he : P.underlying e = some (.int k)) (hc : P.cellsOf e = 1) (hi : (P.info? e).isSome = true) (hm : P.eqGuardType P.depth t = false)
  (hl : ∀ i, i < n → ∃ z, l[i]? = some (.int k z)) (h : G (.bool true) w) : Hv.Gives P o a w G := by
 unfold Hv.Gives execOp
 simp only [ho, hx, hy, Sem.run_bind, run_eqGuard_agg w .eql t _ _ _ _ hm, Result.andThen_ok, run_eql_struct, run_eql_self ht he hc hi l hl, Sem.run_pure]
 exact h
theorem nea {t u : TypeId} {x y : Operand} (ho : o.op = .binOp .neq t x y u) {l : List Value} (hx : a.eval x = .agg l.toArray) (hy : a.eval y = .agg l.toArray) {e : TypeId} {n : Nat} {k : IntKind} (ht : P.underlying t = some (.array n e)) (he : P.underlying e = some (.int k)) (hc : P.cellsOf e = 1) (hi : (P.info? e).isSome = true) (hm : P.eqGuardType P.depth t = false)
  (hl : ∀ i, i < n → ∃ z, l[i]? = some (.int k z)) (h : G (.bool false) w) : Hv.Gives P o a w G := by
 unfold Hv.Gives execOp
 simp only [ho, hx, hy, Sem.run_bind, run_eqGuard_agg w .neq t _ _ _ _ hm, Result.andThen_ok, run_neq_struct, run_eql_self ht he hc hi l hl, Sem.run_pure]
 exact h
theorem St.addRd (h : St w0 X L w) {A : Option Addr} {xs : List Value} (hr : Rd w A xs) (hf : ∀ b ∈ ownedL L, (At.rd A xs).far b) : St w0 X (.rd A xs :: L) w := by
 refine ⟨?_, h.nd, ?_, h.may, h.fr⟩
 ·intro a ha
  rcases List.mem_cons.1 ha with rfl | ha
  ·exact hr
  ·exact h.hold a ha
 ·intro a ha b hb
  have hb' : b ∈ ownedL L := hb
  rcases List.mem_cons.1 ha with rfl | ha
  ·exact hf b hb'
  ·exact h.sep a ha b hb'
theorem freeze_blk {g : Nat} {t : TypeId} {l : List Value} (h : Blk w g l t) (k : Nat) : (w.freeze ⟨g, k, none⟩ 1).heap[g]? = some (.cells l.toArray t (k, k + 1)) := by
 unfold Blk at h
 simp [World.freeze, Array.getElem?_modify, h]
theorem freeze_fr (w : World) (g k : Nat) : Fr (· = g) w (w.freeze ⟨g, k, none⟩ 1) := by
 refine ⟨rfl, rfl, rfl, by simp [World.freeze], fun b _ hb => ?_⟩
 have : ¬ g = b := fun e => hb e.symm
 simp [World.freeze, Array.getElem?_modify, this]
/-- A constant string as bytes: only read from here on. -/
theorem cvs {g : Nat} {t : TypeId} {l : List Value} (hs : St w0 X (.blk g t l :: L) w) {src e : TypeId} {x : Operand} (ho : o.op = .convert src src x) {n c : Nat} (hx : a.eval x = .slice (some ⟨g, 0, none⟩) n c) (h1 : P.underlying src = some (.slice e)) (h3 : P.underlying e = some (.int .u8))
  (h : ∀ w', St w0 X (.rd (some ⟨g, 0, none⟩) l :: L) w' → G (.slice (some ⟨g, 0, none⟩) n c) w') : Hv.Gives P o a w G := by
 have hb : Blk w g l t := hs.hold _ List.mem_cons_self
 have hsh : w.shape? g = some (t, l.length) := by unfold Blk at hb; simp [World.shape?, hb]
 have hr : (convert src src (.slice (some ⟨g, 0, none⟩) n c)).run P w = .ok (.slice (some ⟨g, 0, none⟩) n c) (w.freeze ⟨g, l.length, none⟩ 1) := by
  simp [convert, run_underlying h1, run_underlying h3, markStringish, hsh]
 have hf := freeze_blk hb l.length
 have hnd := hs.nd
 simp only [ownedL, List.flatMap_cons, List.nodup_append] at hnd
 have hL : St w0 X L (w.freeze ⟨g, l.length, none⟩ 1) := by
  refine St.turn (P := [.blk g t l]) (P' := []) hs ?_ (by simp) (by simp) (by simp [ownedL]) (by simp [ownedL])
  exact (freeze_fr w g l.length).mono fun b _ hb => by simp [ownedL, At.owned]; exact hb
 unfold Hv.Gives execOp
 simp only [ho, hx, Sem.run_bind, hr, Result.andThen_ok, Sem.run_pure]
 refine h _ (hL.addRd (.inr ⟨g, 0, rfl, fun i hi => ?_⟩) ?_)
 ·rw [Nat.zero_add, cell_of_row _ g i _ t _ hf]; simp
 ·intro b hb2 hx a ha
  cases ha
  exact fun e => hnd.2.2 g (by simp [At.owned]) b hb2 e
/-! ### The same for a region that draws its order -/
theorem xl {ρ : Operand → Value} {ty : TypeId} {x : Operand} (ho : o.op = .load ty x) {g i : Nat} (hx : ρ x = .pointer (some ⟨g, i, none⟩)) {v : Value} (hc : w.cell? ⟨g, i, none⟩ = some v) (hd : (P.underlying ty).map TypeDesc.isRow = some false) : (execOp ρ o).run P w = .ok (.value v) w := by
 unfold execOp
 simp only [ho, hx, Sem.run_bind, run_loadAt_cell hd hc, Result.andThen_ok, Sem.run_pure]
theorem xla {ρ : Operand → Value} {ty : TypeId} {x : Operand} (ho : o.op = .load ty x) {g i : Nat} (hx : ρ x = .pointer (some ⟨g, i, none⟩)) {xs : List Value} (hr : Rd w (some ⟨g, i, none⟩) xs) (hi : (P.info? ty).map (·.size) = some xs.length) (hd : (P.underlying ty).map TypeDesc.isRow = some true) : (execOp ρ o).run P w = .ok (.value (.agg xs.toArray)) w := by
 cases hu : P.underlying ty with
 | none => simp [hu] at hd
 | some d =>
  simp only [hu, Option.map_some, Option.some.injEq] at hd
  have hc : w.rangeAt g i xs := by
   intro j v hv
   have hj := (List.getElem?_eq_some_iff.1 hv).1
   rcases hr with rfl | ⟨g', off, e, h⟩
   ·simp at hj
   ·cases e; rw [h j hj, hv]
  unfold execOp
  simp only [ho, hx, Sem.run_bind, run_loadAt_mid (P := P) w g i ty xs d hc hu hd hi, Result.andThen_ok, Sem.run_pure]
theorem xeq {ρ : Operand → Value} {t u : TypeId} {x y : Operand} (ho : o.op = .binOp .eql t x y u) {l : List Value} (hx : ρ x = .agg l.toArray) (hy : ρ y = .agg l.toArray) {e : TypeId} {n : Nat} {k : IntKind} (ht : P.underlying t = some (.array n e)) (he : P.underlying e = some (.int k)) (hc : P.cellsOf e = 1) (hi : (P.info? e).isSome = true) (hm : P.eqGuardType P.depth t = false)
  (hl : ∀ i, i < n → ∃ z, l[i]? = some (.int k z)) : (execOp ρ o).run P w = .ok (.value (.bool true)) w := by
 unfold execOp
 simp only [ho, hx, hy, Sem.run_bind, run_eqGuard_agg w .eql t _ _ _ _ hm, Result.andThen_ok, run_eql_struct, run_eql_self ht he hc hi l hl, Sem.run_pure]
theorem xne {ρ : Operand → Value} {t u : TypeId} {x y : Operand} (ho : o.op = .binOp .neq t x y u) {l : List Value} (hx : ρ x = .agg l.toArray) (hy : ρ y = .agg l.toArray) {e : TypeId} {n : Nat} {k : IntKind} (ht : P.underlying t = some (.array n e)) (he : P.underlying e = some (.int k)) (hc : P.cellsOf e = 1) (hi : (P.info? e).isSome = true) (hm : P.eqGuardType P.depth t = false)
  (hl : ∀ i, i < n → ∃ z, l[i]? = some (.int k z)) : (execOp ρ o).run P w = .ok (.value (.bool false)) w := by
 unfold execOp
 simp only [ho, hx, hy, Sem.run_bind, run_eqGuard_agg w .neq t _ _ _ _ hm, Result.andThen_ok, run_neq_struct, run_eql_self ht he hc hi l hl, Sem.run_pure]
 rfl
theorem fill_one (v : Value) (h : v.oneCell' = true) : v.cells = #[v] := by cases v <;> simp_all [Value.cells, Value.oneCell']
theorem fill_scalars : ∀ (vs : List Value) (k : Nat) (cs : List Value), (∀ v ∈ vs, v.oneCell' = true) → k + vs.length ≤ cs.length →
  Instr.fill (fun i => some (i * 1, 1)) cs.toArray ((vs.zipIdx k).map fun p => (p.2, p.1)) = some (cs.take k ++ vs ++ cs.drop (k + vs.length)).toArray
 | [], k, cs, _, _ => by simp [Instr.fill]
 | v :: vs, k, cs, h, hk => by
  simp only [List.length_cons] at hk
  have ih := fill_scalars vs (k + 1) (cs.set k v) (fun u hu => h u (List.mem_cons_of_mem _ hu)) (by simp; omega)
  simp only [List.zipIdx_cons, List.map_cons, Instr.fill, fill_one v (h v List.mem_cons_self)]
  rw [if_neg (by simp; omega)]
  have e1 : (#[v].zipIdx.foldl (fun cs (x : Value × Nat) => cs.setIfInBounds (k * 1 + x.2) x.1) cs.toArray) = (cs.set k v).toArray := by
   simp
  rw [e1, ih]
  congr 2
  rw [List.take_succ_eq_append_getElem (by simp; omega), List.getElem_set_self, List.take_set_of_le (Nat.le_refl _), List.drop_set_of_lt (by omega)]
  simp [Nat.add_comm, Nat.add_left_comm]
/-- A literal slice of scalars. -/
theorem bsv (hs : St w0 X L w) {ty : TypeId} {n : Nat} {l : List (Nat × Operand)} (ho : o.op = .buildSlice ty n l.toArray) {e : TypeId} (ht : P.underlying ty = some (.slice e)) {z : Value} (hi : (P.info? e).map (fun i => (i.zero, i.size)) = some (some z, 1)) (hz : z.cells.size = 1) (vs : List Value) (hv : l.map (fun p => (p.1, a.eval p.2)) = vs.zipIdx.map fun p => (p.2, p.1)) (hn : n = vs.length) (h0 : n ≠ 0) (hb : n ≤ 16777216) (h1 : ∀ v ∈ vs, v.oneCell' = true)
  (h : ∀ (w' : World) (g : Nat), g = w.heap.size → St w0 X (.blk g e vs :: L) w' → G (.slice (some ⟨g, 0, none⟩) n n) w') : Hv.Gives P o a w G := by
 refine bs hs ho ht hi (by omega) (by omega) (cs := vs.toArray) ?_ h
 have e2 : ((Array.range (n * 1)).map (z.cells[· % z.cells.size]!)) = (List.replicate n (z.cells[0]!)).toArray := by
  rw [hz]
  apply Array.ext
  ·simp
  ·intro i h1 h2; simp [Nat.mod_one]
 have e3 : (l.toArray.map fun (i, x) => (i, a.eval x)).toList = (vs.zipIdx 0).map fun p => (p.2, p.1) := by
  rw [← hv]; simp
 rw [e2, e3, fill_scalars vs 0 _ h1 (by simp [hn])]
 simp [hn]
end
end Se
end Go.Proofs.YtakdoijemopejaaGreat
/- A law for a region that draws its order: quiet operations once, in an order of one's choice; where no quiet one is ready, each of the others that is ready, world after world.
  Conditions: a check by the kernel; the quiet operations give one value in every world of the kind S, and the others keep S. -/
namespace Go.Proofs.YtakdoijemopejaaGreat
namespace Or
open Go Go.RowKit Hv Ch
/-- Nothing that j waits for is left. -/
def rdy (ops : Array Oper) (rest : List Nat) (j : Nat) : Bool := rest.all fun i => !Region.waitsFor .any ops j i
section
variable (P : Program) (ops : Array Oper) (S : World → Prop) (N : Nat → Bool) (F : Act → World → Prop)
def AW : Nat → List Nat → Act → World → Prop
 | 0, rest, a, w => rest = [] ∧ F a w
 | n + 1, rest, a, w =>
  (∃ q ∈ rest, N q = false ∧ rdy ops rest q = true ∧ ∃ o, ops[q]? = some o ∧ ∃ v, YieldsIf P ops S o v a ∧ AW n (rest.erase q) (a.put o.dst v) w) ∨
  ((rest.all fun q => N q || !rdy ops rest q) = true ∧ ∀ j ∈ rest, rdy ops rest j = true → ∃ o, ops[j]? = some o ∧
   ((Region.wanted o (yielded ops a.tmps) = false ∧ AW n (rest.erase j) (a.put o.dst undef) w) ∨
    (Region.wanted o (yielded ops a.tmps) = true ∧ Gives P o a w (fun v w' => S w' ∧ AW n (rest.erase j) (a.put o.dst v) w'))))
end
section
variable {P : Program} {ops : Array Oper} {S : World → Prop} {N : Nat → Bool} {F : Act → World → Prop}
def Ap (ops : Array Oper) (x y : Oper) : Prop := (∀ d, x.dst = some d → d ∉ y.looksAt ops) ∧ (∀ d, x.dst = some d → y.dst ≠ some d) ∧ (∀ d, y.dst = some d → d ∉ x.looksAt ops)
theorem lt_erase {rest : List Nat} {b q : Nat} (h : ∀ x ∈ rest, x < b) : ∀ x ∈ rest.erase q, x < b := fun x hx => h x (List.mem_of_mem_erase hx)
theorem rdy_erase {rest : List Nat} {q j : Nat} (h : rdy ops rest j = true) : rdy ops (rest.erase q) j = true := by
 unfold rdy at *
 rw [List.all_eq_true] at *
 exact fun i hi => h i (List.mem_of_mem_erase hi)
/-- A quiet operation that is ready is drawn to the front. -/
theorem AW.pullq {b : Nat} (hap : ∀ i j, i ≠ j → ∀ rest : List Nat, (∀ x ∈ rest, x < b) → i ∈ rest → j ∈ rest → rdy ops rest i = true → rdy ops rest j = true → ∀ oi oj, ops[i]? = some oi → ops[j]? = some oj → Ap ops oi oj) (hsel : ∀ (j : Nat) (o : Oper) cs b, ops[j]? = some o → o.op ≠ .select cs b) {j : Nat} {oj : Oper} (hj : ops[j]? = some oj) (hN : N j = false) :
  ∀ (n : Nat) (rest : List Nat) {a : Act} {w : World}, (∀ x ∈ rest, x < b) → S w → j ∈ rest → rdy ops rest j = true → AW P ops S N F (n + 1) rest a w → ∃ v, YieldsIf P ops S oj v a ∧ AW P ops S N F n (rest.erase j) (a.put oj.dst v) w := by
 intro n
 induction n with
 | zero =>
  intro rest a w hb0 hS hm hr h
  rcases h with ⟨q, hq, hNq, hrq, o, ho, v, hy, hre, hF⟩ | ⟨hall, _⟩
  ·have : rest = [q] := by
    have hl : (rest.erase q).length = 0 := by rw [hre]; rfl
    rw [List.length_erase_of_mem hq] at hl
    match rest, hq, hl with
    | [x], hq, _ => simp at hq; rw [hq]
    | [], hq, _ => cases hq
    | _ :: _ :: _, _, hl => simp at hl
   subst this
   have : j = q := by simpa using hm
   subst this
   have := Option.some.inj (ho.symm.trans hj); subst this
   exact ⟨v, hy, hre, hF⟩
  ·have := List.all_eq_true.1 hall j hm
   simp [hN, hr] at this
 | succ n ih =>
  intro rest a w hb0 hS hm hr h
  rcases h with ⟨q, hq, hNq, hrq, o, ho, v, hy, hW⟩ | ⟨hall, _⟩
  ·by_cases hqj : q = j
   ·subst hqj
    have := Option.some.inj (ho.symm.trans hj); subst this
    exact ⟨v, hy, hW⟩
   ·have hm' : j ∈ rest.erase q := (List.mem_erase_of_ne (fun e => hqj e.symm)).2 hm
    obtain ⟨vj, hyj, hW'⟩ := ih (rest.erase q) (lt_erase hb0) hS hm' (rdy_erase hr) hW
    have hapqj := hap q j hqj rest hb0 hq hm hrq hr o oj ho hj
    obtain ⟨h1, h2, h3⟩ := hapqj
    refine ⟨vj, (YieldsIf.putIff (hsel j oj · · hj) h1).1 hyj, .inl ⟨q, (List.mem_erase_of_ne hqj).2 hq, hNq, rdy_erase hrq, o, ho, v, (YieldsIf.putIff (hsel q o · · ho) h3).2 hy, ?_⟩⟩
    rw [← Act.put_comm a v vj h2, List.erase_comm]
    exact hW'
  ·have := List.all_eq_true.1 hall j hm
   simp [hN, hr] at this
/-- Another operation that is ready is drawn to the front. -/
theorem AW.pulln {b : Nat} (hap : ∀ i j, i ≠ j → ∀ rest : List Nat, (∀ x ∈ rest, x < b) → i ∈ rest → j ∈ rest → rdy ops rest i = true → rdy ops rest j = true → ∀ oi oj, ops[i]? = some oi → ops[j]? = some oj → Ap ops oi oj) (hsel : ∀ (j : Nat) (o : Oper) cs b, ops[j]? = some o → o.op ≠ .select cs b) {j : Nat} {oj : Oper} (hj : ops[j]? = some oj) (hN : N j = true) :
  ∀ (n : Nat) (rest : List Nat) {a : Act} {w : World}, (∀ x ∈ rest, x < b) → S w → j ∈ rest → rdy ops rest j = true → AW P ops S N F (n + 1) rest a w →
   (Region.wanted oj (yielded ops a.tmps) = false ∧ AW P ops S N F n (rest.erase j) (a.put oj.dst undef) w) ∨ (Region.wanted oj (yielded ops a.tmps) = true ∧ Gives P oj a w (fun v w' => S w' ∧ AW P ops S N F n (rest.erase j) (a.put oj.dst v) w')) := by
 intro n
 induction n with
 | zero =>
  intro rest a w hb0 hS hm hr h
  rcases h with ⟨q, hq, hNq, hrq, o, ho, v, hy, hre, hF⟩ | ⟨hall, hb⟩
  ·exfalso
   have hl : (rest.erase q).length = 0 := by rw [hre]; rfl
   have hqj : q ≠ j := by rintro rfl; rw [hN] at hNq; cases hNq
   have : j ∈ rest.erase q := (List.mem_erase_of_ne (fun e => hqj e.symm)).2 hm
   rw [hre] at this; cases this
  ·obtain ⟨o, ho, h⟩ := hb j hm hr
   have := Option.some.inj (ho.symm.trans hj); subst this
   exact h
 | succ n ih =>
  intro rest a w hb0 hS hm hr h
  rcases h with ⟨q, hq, hNq, hrq, o, ho, v, hy, hW⟩ | ⟨hall, hb⟩
  ·have hqj : q ≠ j := by rintro rfl; rw [hN] at hNq; cases hNq
   have hm' : j ∈ rest.erase q := (List.mem_erase_of_ne (fun e => hqj e.symm)).2 hm
   have hapqj := hap q j hqj rest hb0 hq hm hrq hr o oj ho hj
   obtain ⟨h1, h2, h3⟩ := hapqj
   have wj : Region.wanted oj (yielded ops (a.put o.dst v).tmps) = Region.wanted oj (yielded ops a.tmps) := wanted_put oj a o.dst v h1
   have back : ∀ {u : Value} {w' : World}, AW P ops S N F n ((rest.erase q).erase j) ((a.put o.dst v).put oj.dst u) w' → AW P ops S N F (n + 1) (rest.erase j) (a.put oj.dst u) w' := fun {u w'} hX => by
    refine .inl ⟨q, (List.mem_erase_of_ne hqj).2 hq, hNq, rdy_erase hrq, o, ho, v, (YieldsIf.putIff (hsel q o · · ho) h3).2 hy, ?_⟩
    rw [← Act.put_comm a v u h2, List.erase_comm]
    exact hX
   rcases ih (rest.erase q) (lt_erase hb0) hS hm' (rdy_erase hr) hW with ⟨hw, hX⟩ | ⟨hw, hX⟩
   ·exact .inl ⟨by rw [← wj]; exact hw, back hX⟩
   ·exact .inr ⟨by rw [← wj]; exact hw, ((Gives.put (hsel j oj · · hj) h1).1 hX).mono fun u w' ⟨h4, h5⟩ => ⟨h4, back h5⟩⟩
  ·obtain ⟨o, ho, h⟩ := hb j hm hr
   have := Option.some.inj (ho.symm.trans hj); subst this
   exact h
def checkO (ops : Array Oper) (n : Nat) : Bool :=
 Region.noSelect ops && decide (n ≤ ops.size) && (decide (n = ops.size) || (Region.sinkB .any ops n && Region.chainB .any ops n)) && Region.lexHead .any ops (ops.size - n) n 0 (Array.replicate ops.size false)
theorem soundO {Q : Exit → Act → World → Prop} {n : Nat} (hB : checkO ops n = true)
  (hF : ∀ listed a w, Region.seqB .any ops (ops.size - n) n listed = true → F a w → wpAny P .any ops Q (ops.size - n) listed a w) :
  ∀ (m : Nat) (rest : List Nat) (a : Act) (w : World) (listed : Array Bool), rest.length = m → HeadInv .any ops n listed → (∀ j, j ∈ rest ↔ j < n ∧ listed.getD j true = false) → rest.Pairwise (· < ·) →
   AW P ops S N F m rest a w → S w → wpAny P .any ops Q (m + (ops.size - n)) listed a w := by
 simp only [checkO, Bool.and_eq_true, decide_eq_true_eq, Bool.or_eq_true] at hB
 obtain ⟨⟨⟨hsel, hn⟩, hsc⟩, hlex⟩ := hB
 have hap0 : ∀ i j, i < j → ∀ rest : List Nat, i ∈ rest → rdy ops rest j = true → i < n → ∀ oi oj, ops[i]? = some oi → ops[j]? = some oj → oi.apart ops oj = true := by
  intro i j hij rest hi hr hin oi oj hoi hoj
  have hf := lexHead_free n 0 _ hlex i (Nat.zero_le _) (by omega)
  have hjs : j < ops.size := (Array.getElem?_eq_some_iff.1 hoj).1
  refine Region.free_spec hoi hf j oj hoj (by omega) ?_ ?_
  ·rw [canon_get, if_neg (by omega)]
   simp [hjs]
  ·intro e he hb heq
   have h1 := List.all_eq_true.1 hr i hi
   have h2 : Region.waitsFor .any ops j i = true := by
    unfold Region.waitsFor
    rw [hoj]
    simp only [Array.any_eq_true']
    exact ⟨e, he, by simp [hb, heq]⟩
   simp [h2] at h1
 have hap : ∀ i j, i ≠ j → ∀ rest : List Nat, (∀ x ∈ rest, x < n) → i ∈ rest → j ∈ rest → rdy ops rest i = true → rdy ops rest j = true → ∀ oi oj, ops[i]? = some oi → ops[j]? = some oj → Ap ops oi oj := by
  intro i k hik r hr hi hk hri hrk oi ok hoi hok
  rcases Nat.lt_or_gt_of_ne hik with h | h
  ·exact Oper.apart_spec (hap0 i k h r hi hrk (hr i hi) oi ok hoi hok)
  ·obtain ⟨h1, h2, h3⟩ := Oper.apart_spec (hap0 k i h r hk hri (hr k hk) ok oi hok hoi)
   exact ⟨h3, fun d hd e => h2 d e hd, h1⟩
 intro m
 induction m with
 | zero =>
  intro rest a w listed hlen inv hrest hpw hW hS
  have : rest = [] := List.eq_nil_of_length_eq_zero hlen
  subst this
  rw [Nat.zero_add]
  refine hF _ _ _ ?_ hW.2
  have := lexHead_end (ops := ops) n 0 _ hlex
  rw [Nat.zero_add] at this
  have e : listed = canon n 0 (Array.replicate ops.size false) := by
   apply Array.ext
   ·rw [inv.size, canon_size]; simp
   ·intro j h1 h2
    have g1 : listed.getD j true = listed[j] := by simp [h1]
    have g2 : (canon n 0 (Array.replicate ops.size false)).getD j true = (canon n 0 (Array.replicate ops.size false))[j] := by simp [h2]
    rw [← g1, ← g2, canon_get]
    have hjs : j < ops.size := by rw [← inv.size]; exact h1
    by_cases hj : j < n
    ·rw [if_pos (by omega)]
     cases h : listed.getD j true with
     | true => rfl
     | false => exact absurd ((hrest j).2 ⟨hj, h⟩) (by simp)
    ·rw [if_neg (by omega)]
     rw [inv.tail j (by omega) hjs]
     simp [hjs]
  rw [e]; exact this
 | succ m ih =>
  intro rest a w listed hlen inv hrest hpw hW hS
  have hmem : ∃ i, i ∈ rest := by
   match rest, hlen with
   | i :: _, _ => exact ⟨i, List.mem_cons_self⟩
  have hready : ∀ j, j ∈ Region.ready .any ops listed → j < n := by
   intro j hj
   obtain ⟨i, hi⟩ := hmem
   have hi' := (hrest i).1 hi
   rcases Nat.lt_or_ge j n with h | h
   ·exact h
   ·obtain ⟨_, oj, hoj, _⟩ := mem_ready.1 hj
    have hjs : j < ops.size := (Array.getElem?_eq_some_iff.1 hoj).1
    rcases hsc with h0 | ⟨hs, hc⟩
    ·omega
    ·exact absurd hj (tail_waits hs hc (by omega) inv _ i rfl hi'.1 hi'.2 j h)
  rw [show m + 1 + (ops.size - n) = (m + (ops.size - n)) + 1 by omega]
  refine ⟨fun h0 => ?_, fun j hj => ?_⟩
  ·exfalso
   obtain ⟨i, hi⟩ := hmem
   match rest, hrest, hpw with
   | k :: rest', hrest, hpw =>
    have hk := (hrest k).1 List.mem_cons_self
    have hall : ∀ j, j < k → listed.getD j true = true := by
     intro j hjk
     cases h : listed.getD j true with
     | true => rfl
     | false =>
      have := (hrest j).2 ⟨by omega, h⟩
      rcases List.mem_cons.1 this with rfl | h'
      ·omega
      ·have := (List.pairwise_cons.1 hpw).1 j h'
       omega
    have hkr : k ∈ Region.ready .any ops listed := by
     have := lexHead_ready n 0 _ hlex k (by omega) (by omega)
     rw [mem_ready] at this ⊢
     obtain ⟨_, ok, hok, hafter⟩ := this
     refine ⟨hk.2, ok, hok, fun e he hb => ?_⟩
     have h1 := hafter e he hb
     have hks : k < ops.size := (Array.getElem?_eq_some_iff.1 hok).1
     have hlt : e.on < k := by
      rcases Nat.lt_or_ge e.on k with h | h
      ·exact h
      ·exfalso
       have h2 := canon_get (k - 0) 0 (Array.replicate ops.size false) e.on
       rw [if_neg (by omega)] at h2
       rcases Nat.lt_or_ge e.on ops.size with h3 | h3
       ·have h4 : (Array.replicate ops.size false).getD e.on true = false := by simp [h3]
        rw [h4] at h2
        rw [getD_both h2] at h1; cases h1
       ·have : (canon (k - 0) 0 (Array.replicate ops.size false)).getD e.on false = false := by
         rw [Array.getD_eq_getD_getElem?, Array.getElem?_eq_none (by rw [canon_size]; simpa using h3)]; rfl
        rw [this] at h1; cases h1
     have h5 := hall e.on hlt
     have : e.on < listed.size := by rw [inv.size]; omega
     simp [this] at h5 ⊢; exact h5
    rw [h0] at hkr; cases hkr
  ·have hjn := hready j hj
   obtain ⟨hjun, oj, hoj, hjall⟩ := mem_ready.1 hj
   have hjrest : j ∈ rest := (hrest j).2 ⟨hjn, hjun⟩
   have hrd : rdy ops rest j = true := by
    rw [rdy, List.all_eq_true]
    intro i hi
    cases hw : Region.waitsFor .any ops j i with
    | false => rfl
    | true =>
     obtain ⟨o', ho', e, he, hb, hon⟩ := Region.waitsFor_spec hw
     have := Option.some.inj (ho'.symm.trans hoj); subst this
     have h1 := hjall e he hb
     rw [hon, getD_both ((hrest i).1 hi).2] at h1
     cases h1
   have hlt : ∀ x ∈ rest, x < n := fun x hx => ((hrest x).1 hx).1
   have hlen' : (rest.erase j).length = m := by rw [List.length_erase_of_mem hjrest]; omega
   have hnd : rest.Nodup := hpw.imp (fun h => Nat.ne_of_lt h)
   have hrest' : ∀ k, k ∈ rest.erase j ↔ k < n ∧ (listed.setIfInBounds j true).getD k true = false := by
    intro k
    rw [hnd.mem_erase_iff, hrest k]
    by_cases hkj : k = j
    ·subst hkj
     have hks : k < listed.size := by rw [inv.size]; exact (Array.getElem?_eq_some_iff.1 hoj).1
     simp [hks]
    ·rw [getD_set_ne true (fun h => hkj h.symm)]
     simp [hkj]
   have hpw' : (rest.erase j).Pairwise (· < ·) := hpw.sublist List.erase_sublist
   have inv' := inv.set hj hjn
   cases hnj : N j with
   | false =>
    obtain ⟨v, hy, hW'⟩ := AW.pullq hap (Region.noSelect_spec hsel) hoj hnj m rest hlt hS hjrest hrd hW
    exact hy.wpOp hoj hS (ih _ _ _ _ hlen' inv' hrest' hpw' hW' hS)
   | true =>
    rcases AW.pulln hap (Region.noSelect_spec hsel) hoj hnj m rest hlt hS hjrest hrd hW with ⟨hw, hW'⟩ | ⟨hw, hg⟩
    ·unfold wpOp
     simp only [hoj, hw, Bool.false_eq_true, if_false]
     exact ih _ _ _ _ hlen' inv' hrest' hpw' hW' hS
    ·unfold wpOp
     simp only [hoj, hw, if_true]
     exact .inl (hg.wp fun v w' ⟨hS', hW'⟩ => ih _ _ _ _ hlen' inv' hrest' hpw' hW' hS')
/-- THE LAW. -/
theorem region {id : Nat} {Q : Exit → Act → World → Prop} {a : Act} {w : World} {l : List Oper} (n : Nat) (S : World → Prop) (N : Nat → Bool)
  (hm : P.follows .mixedOrders = true) (hB : checkO l.toArray n = true) (hS : S w.drew)
  (h : AW P l.toArray S N (fun a' w' => wpList P l.toArray Q (l.drop n) a' w') n (List.range n) a w.drew) : (Code.region id l.toArray true).wp P Q a w := by
 have hB' := hB
 simp only [checkO, Bool.and_eq_true, decide_eq_true_eq] at hB'
 have hn := hB'.1.1.2
 refine wp_region_any hm ?_
 have inv0 : HeadInv .any l.toArray n (Array.replicate l.toArray.size false) :=
  ⟨by simp, fun j oj _ hl => (by rw [getD_replicate_false] at hl; cases hl), fun t _ ht => getD_in (by simpa using ht) (getD_replicate_false _ _)⟩
 have hdl : (l.drop n).length = l.toArray.size - n := by simp
 have := soundO (Q := Q) hB (fun listed a' w' hq hF => by
  have := wpAny_of_seq (md := .any) (Q' := Q) (l.drop n) n listed a' w' (fun j => by simp [List.getElem?_drop]) (by rw [hdl]; exact hq) hF
  rwa [hdl] at this) n (List.range n) a w.drew (Array.replicate l.toArray.size false) (by simp) inv0
  (fun j => by
   rw [List.mem_range]
   constructor
   ·intro hj; refine ⟨hj, ?_⟩
    have : j < l.toArray.size := by omega
    simp at this; simp [this]
   ·exact fun h => h.1)
  List.pairwise_lt_range h hS
 rw [show n + (l.toArray.size - n) = l.toArray.size by omega] at this
 exact this
/-- A quiet operation. -/
theorem pure (q : Nat) {n : Nat} {rest : List Nat} {a : Act} {w : World} {o : Oper} {v : Value} (hq : rest.contains q = true) (hr : rdy ops rest q = true) (hN : N q = false) (ho : ops.toList[q]? = some o) (hw : Region.wanted o (yielded ops a.tmps) = true)
  (hv : ∀ w, S w → (execOp a.eval o).run P w = .ok (.value v) w) (h : AW P ops S N F n (rest.erase q) (a.put o.dst v) w) : AW P ops S N F (n + 1) rest a w :=
 .inl ⟨q, by simpa using hq, hN, hr, o, by simpa using ho, v, .inl ⟨hw, hv⟩, h⟩
theorem skip (q : Nat) {n : Nat} {rest : List Nat} {a : Act} {w : World} {o : Oper} (hq : rest.contains q = true) (hr : rdy ops rest q = true) (hN : N q = false) (ho : ops.toList[q]? = some o) (hw : Region.wanted o (yielded ops a.tmps) = false)
  (h : AW P ops S N F n (rest.erase q) (a.put o.dst undef) w) : AW P ops S N F (n + 1) rest a w :=
 .inl ⟨q, by simpa using hq, hN, hr, o, by simpa using ho, undef, .inr ⟨hw, rfl⟩, h⟩
def readyOf (ops : Array Oper) (rest : List Nat) : List Nat := rest.filter (rdy ops rest)
/-- The others: each that is ready. -/
theorem fork {n : Nat} {rest rs : List Nat} {a : Act} {w : World} (hall : (rest.all fun q => N q || !rdy ops rest q) = true) (hrs : readyOf ops rest = rs)
  (h : ∀ j ∈ rs, ∃ o, ops.toList[j]? = some o ∧ ((Region.wanted o (yielded ops a.tmps) = false ∧ AW P ops S N F n (rest.erase j) (a.put o.dst undef) w) ∨ (Region.wanted o (yielded ops a.tmps) = true ∧ Gives P o a w (fun v w' => S w' ∧ AW P ops S N F n (rest.erase j) (a.put o.dst v) w')))) : AW P ops S N F (n + 1) rest a w :=
 .inr ⟨hall, fun j hj hr => by
  obtain ⟨o, ho, h⟩ := h j (by rw [← hrs]; exact List.mem_filter.2 ⟨hj, hr⟩)
  exact ⟨o, by simpa using ho, h⟩⟩
theorem one {n : Nat} {rest : List Nat} {a : Act} {w : World} (j : Nat) {o : Oper} (hall : (rest.all fun q => N q || !rdy ops rest q) = true) (hrs : readyOf ops rest = [j]) (ho : ops.toList[j]? = some o) (hw : Region.wanted o (yielded ops a.tmps) = true)
  (h : Gives P o a w (fun v w' => S w' ∧ AW P ops S N F n (rest.erase j) (a.put o.dst v) w')) : AW P ops S N F (n + 1) rest a w :=
 fork hall hrs fun i hi => by
  obtain rfl := List.mem_singleton.1 hi
  exact ⟨o, ho, .inr ⟨hw, h⟩⟩
theorem two {n : Nat} {rest : List Nat} {a : Act} {w : World} (j k : Nat) {o p : Oper} (hall : (rest.all fun q => N q || !rdy ops rest q) = true) (hrs : readyOf ops rest = [j, k]) (ho : ops.toList[j]? = some o) (hw : Region.wanted o (yielded ops a.tmps) = true) (hp : ops.toList[k]? = some p) (hw' : Region.wanted p (yielded ops a.tmps) = true)
  (h : Gives P o a w (fun v w' => S w' ∧ AW P ops S N F n (rest.erase j) (a.put o.dst v) w')) (h' : Gives P p a w (fun v w' => S w' ∧ AW P ops S N F n (rest.erase k) (a.put p.dst v) w')) : AW P ops S N F (n + 1) rest a w :=
 fork hall hrs fun i hi => by
  rcases List.mem_cons.1 hi with rfl | hi
  ·exact ⟨o, ho, .inr ⟨hw, h⟩⟩
  ·obtain rfl := List.mem_singleton.1 hi
   exact ⟨p, hp, .inr ⟨hw', h'⟩⟩
theorem done {a : Act} {w : World} (h : F a w) : AW P ops S N F 0 [] a w := ⟨rfl, h⟩
end
end Or
end Go.Proofs.YtakdoijemopejaaGreat
/- From a walk to a law's row: the arguments opened, and their stay. No condition. -/
namespace Go.Proofs.YtakdoijemopejaaGreat
namespace Lift
open Go Go.ChangeShapes Go.WideShapes Go.ChangeAt Go.RowKit
variable {H : Type} {enc : TypeId × Value → H} {P : Program}
theorem trodAll_lt {W : World} {b : Nat} {sp : Nat → Bool} {hd : Bool} : ∀ {ts : List TypeId} {vs : List Value} {ds : List (DataW H)} {ps : List MemPlace}, DataW.TrodAll enc P W b sp hd ts vs ds ps → ∀ x ∈ ps, x.block < W.heap.size
 | [], vs, ds, ps, h => by
  obtain ⟨_, _, rfl⟩ := trodAll_nil h
  simp
 | t :: ts, vs, ds, ps, h => by
  obtain ⟨v, vs', d, ds', p, q, rfl, rfl, rfl, ⟨m, hm⟩, h2⟩ := trodAll_cons h
  intro x hx
  rcases List.mem_append.1 hx with hx | hx
  ·exact DataW.trod_lt m _ _ _ hm x hx
  ·exact trodAll_lt h2 x hx
theorem args_stay (hl : laidOutB P = true) {W W' : World} (hb : Below W.heap.size W W') : ∀ {ts : List TypeId} {vs : List Value} {ds : List (DataW H)} {ps : List MemPlace}, (ts.all fun t => P.readableRec t && decide (t < P.types.size)) = true →
  DataW.TrodAll enc P W 0 (fun _ => true) true ts vs ds ps → DataW.TrodAll enc P W' 0 (fun b => decide (b < W.heap.size)) true ts vs ds ps
 | [], vs, ds, ps, _, h => by
  obtain ⟨rfl, rfl, rfl⟩ := trodAll_nil h
  exact trodAll_mk0
 | t :: ts, vs, ds, ps, hts, h => by
  obtain ⟨v, vs', d, ds', p, q, rfl, rfl, rfl, h1, h2⟩ := trodAll_cons h
  simp only [List.all_cons, Bool.and_eq_true, decide_eq_true_eq] at hts
  have lt : ∀ x ∈ p, x.block < W.heap.size := by obtain ⟨m, hm⟩ := h1; exact DataW.trod_lt m _ _ _ hm
  exact trodAll_cons_mk (Below.trod hl hts.1.1 hts.1.2 h1 hb lt) (args_stay hl hb (by simpa using hts.2) h2)
theorem open_bytes {W : World} {r : Reach} {base : Nat} {t e : TypeId} {v : Value} {d : DataW H} {p : List MemPlace} (ht : P.underlying t = some (.slice e)) (he : P.underlying e = some (.int .u8)) (hc : P.cellsOf e = 1) (hv : Value.okWide P W r base t v)
  (h : DataW.Trod enc P W 0 (fun _ => true) true t v d p) : ∃ A n c, ∃ bs : List (BitVec 8), v = .slice A n c ∧ n = bs.length ∧ Li.Rd W A (bs.map Li.v8) := by
 obtain ⟨A, n, c, rfl⟩ := okWide_slice ht hv
 obtain ⟨fuel, hf⟩ := h
 rcases open_ints ht he hc hf with ⟨hcs, _⟩ | ⟨x, l, c', zs, hcs, _, hl, hm, hz, _, hcell, hwz⟩
 ·simp [Value.cells] at hcs
  obtain ⟨rfl, rfl, rfl⟩ := hcs
  exact ⟨none, 0, 0, [], rfl, rfl, .inl rfl⟩
 ·simp [Value.cells] at hcs
  obtain ⟨rfl, rfl, rfl⟩ := hcs
  simp only [if_true] at hz
  refine ⟨some x, n, c, (zs.take n).map (BitVec.ofInt 8), rfl, by simp; omega, ?_⟩
  by_cases h0 : n = 0
  ·subst h0; exact .inl (by simp)
  ·obtain ⟨b, off, spot⟩ := x
   have hc0 := hcell 0 (by omega)
   have hspot : spot = none := by simpa [Addr.add] using World.cell?_spot hc0
   subst hspot
   refine .inr ⟨b, off, rfl, fun i hi => ?_⟩
   simp only [List.length_map, List.length_take] at hi
   have hci := hcell i (by omega)
   rw [Addr.add_lit] at hci
   rw [hci]
   have hiz : i < zs.length := by omega
   have hw := hwz (zs[i]) (List.getElem_mem hiz)
   have hr : 0 ≤ zs[i] ∧ zs[i] ≤ 255 := by simpa [Lit.wf, IntKind.min, IntKind.max, IntKind.signed, IntKind.bits] using hw
   have e1 : (zs.take n)[i]? = some zs[i] := by rw [List.getElem?_take_of_lt (by omega), List.getElem?_eq_getElem hiz]
   simp only [List.map_map, List.getElem?_map, e1, Option.map_some, Function.comp, Li.v8, Bv.n8_of]
   rw [List.getD_eq_getElem?_getD, List.getElem?_eq_getElem hiz]
   simp only [Option.getD_some, Option.some.injEq, Value.int.injEq, true_and]
   omega
theorem rd_ints {W : World} {x : Addr} {zs : List Int} {n : Nat} (hn : n ≤ zs.length) (hcell : ∀ i, i < zs.length → W.cell? (x.add i) = some (.int .u8 (zs.getD i 0))) (hwz : ∀ z ∈ zs, (Lit.int .u8 z).wf = true) : Li.Rd W (some x) (((zs.take n).map (BitVec.ofInt 8)).map Li.v8) := by
 by_cases h0 : n = 0
 ·subst h0; exact .inl (by simp)
 ·obtain ⟨b, off, spot⟩ := x
  have hc0 := hcell 0 (by omega)
  have hspot : spot = none := by simpa [Addr.add] using World.cell?_spot hc0
  subst hspot
  refine .inr ⟨b, off, rfl, fun i hi => ?_⟩
  simp only [List.length_map, List.length_take] at hi
  have hci := hcell i (by omega)
  rw [Addr.add_lit] at hci
  rw [hci]
  have hiz : i < zs.length := by omega
  have hw := hwz (zs[i]) (List.getElem_mem hiz)
  have hr : 0 ≤ zs[i] ∧ zs[i] ≤ 255 := by simpa [Lit.wf, IntKind.min, IntKind.max, IntKind.signed, IntKind.bits] using hw
  have e1 : (zs.take n)[i]? = some zs[i] := by rw [List.getElem?_take_of_lt (by omega), List.getElem?_eq_getElem hiz]
  simp only [List.map_map, List.getElem?_map, e1, Option.map_some, Function.comp, Li.v8, Bv.n8_of]
  rw [List.getD_eq_getElem?_getD, List.getElem?_eq_getElem hiz]
  simp only [Option.getD_some, Option.some.injEq, Value.int.injEq, true_and]
  omega
theorem open_parts {W : World} {r : Reach} {base : Nat} {t e q : TypeId} {v : Value} {d : DataW H} {p : List MemPlace} (ht : P.underlying t = some (.slice e)) (he : P.underlying e = some (.slice q)) (hq : P.underlying q = some (.int .u8)) (ce : P.cellsOf e = 1) (cq : P.cellsOf q = 1) (hv : Value.okWide P W r base t v)
  (h : DataW.Trod enc P W 0 (fun _ => true) true t v d p) : ∃ A n c, ∃ l : List (Option Addr × Nat × List (BitVec 8)), v = .slice A n c ∧ n = l.length ∧ Li.Rd W A (l.map fun p => .slice p.1 p.2.2.length p.2.1) ∧ ∀ p ∈ l, Li.Rd W p.1 (p.2.2.map Li.v8) := by
 obtain ⟨A, n, c, rfl⟩ := okWide_slice ht hv
 obtain ⟨fuel, hf⟩ := h
 rcases Go.Deep.open_int_rows ht he hq ce cq hf with ⟨hcs, _⟩ | ⟨a, len, cap, A', L', C', Z, hcs, _, hl, hm, _, hrow⟩
 ·simp [Value.cells] at hcs
  obtain ⟨rfl, rfl, rfl⟩ := hcs
  exact ⟨none, 0, 0, [], rfl, rfl, .inl rfl, by simp⟩
 ·simp [Value.cells] at hcs
  obtain ⟨rfl, rfl, rfl⟩ := hcs
  have hlen : ∀ i, i < n → (((Z i).take (L' i)).map (BitVec.ofInt 8)).length = L' i := fun i hi => by
   obtain ⟨_, h1, _, h2, _⟩ := hrow i (by omega)
   simp; omega
  refine ⟨some a, n, c, (List.range n).map fun i => (A' i, C' i, ((Z i).take (L' i)).map (BitVec.ofInt 8)), rfl, by simp, ?_, ?_⟩
  ·by_cases h0 : n = 0
   ·subst h0; exact .inl (by simp)
   ·obtain ⟨b, off, spot⟩ := a
    obtain ⟨hc0, _⟩ := hrow 0 (by omega)
    have hspot : spot = none := by simpa [Addr.add] using World.cell?_spot hc0
    subst hspot
    refine .inr ⟨b, off, rfl, fun i hi => ?_⟩
    simp only [List.length_map, List.length_range] at hi
    obtain ⟨hci, _⟩ := hrow i (by omega)
    rw [Addr.add_lit] at hci
    rw [hci]
    simp only [List.map_map, List.getElem?_map, List.getElem?_range hi, Option.map_some, Function.comp]
    rw [hlen i hi]
  ·intro q hq
   obtain ⟨i, hi, rfl⟩ := List.mem_map.1 hq
   rw [List.mem_range] at hi
   obtain ⟨_, h1, h2, h3, h4, h5, h6⟩ := hrow i (by omega)
   cases hA : A' i with
   | none =>
    have hc0 := h5 hA
    have hL0 : L' i = 0 := by omega
    simp only [hL0, List.take_zero, List.map_nil]
    exact .inl rfl
   | some x =>
    exact rd_ints (by omega) (fun j hj => (h6 x hA).2 j (by omega)) h4
theorem open_arr {W : World} {r : Reach} {base : Nat} {t e : TypeId} {n : Nat} {k : IntKind} {v : Value} (ht : P.underlying t = some (.array n e)) (he : P.underlying e = some (.int k)) (hct : P.cellTypes P.depth t = some (List.replicate n e)) (hc : P.cellsOf t = n) (hv : Value.okWide P W r base t v) :
  ∃ zs : List Int, v = .agg (zs.map (Value.int k)).toArray ∧ zs.length = n ∧ ∀ z ∈ zs, k.has z := by
 unfold Value.okWide at hv
 rw [ht] at hv
 obtain ⟨cs, rfl, hsz, ts, hts, _, hcell⟩ := hv
 rw [hct] at hts
 cases hts
 have each : ∀ i (hi : i < cs.size), ∃ z, cs[i] = .int k z ∧ k.has z := by
  intro i hi
  obtain ⟨u, hu, hok⟩ := hcell i cs[i] (by simp [hi])
  have hmod : i % (List.replicate n e).length < n := by rw [List.length_replicate]; exact Nat.mod_lt _ (by omega)
  have hue : u = e := by
   rw [List.getElem?_replicate] at hu
   split at hu <;> first | exact (Option.some.inj hu).symm | cases hu
  subst hue
  unfold Cell.okWide Cell.ok at hok
  rw [he] at hok
  generalize cs[i] = v at hok
  cases v <;> simp at hok
  obtain ⟨rfl, h2⟩ := hok
  exact ⟨_, rfl, h2⟩
 refine ⟨cs.toList.map (fun v => match v with | .int _ z => z | _ => 0), ?_, by simp [hsz, hc], ?_⟩
 ·congr 1
  apply Array.ext
  ·simp
  ·intro i h1 h2
   obtain ⟨z, hz, _⟩ := each i h1
   simp [hz]
 ·intro z hz
  obtain ⟨v, hv, rfl⟩ := List.mem_map.1 hz
  obtain ⟨i, hi, rfl⟩ := List.getElem_of_mem hv
  obtain ⟨z, hz, hk⟩ := each i (by simpa using hi)
  simp only [Array.getElem_toList, hz]
  exact hk
theorem open_arr8 {W : World} {r : Reach} {base : Nat} {t e : TypeId} {n : Nat} {v : Value} (ht : P.underlying t = some (.array n e)) (he : P.underlying e = some (.int .u8)) (hct : P.cellTypes P.depth t = some (List.replicate n e)) (hc : P.cellsOf t = n) (hv : Value.okWide P W r base t v) :
  ∃ bs : List (BitVec 8), v = .agg (bs.map Li.v8).toArray ∧ bs.length = n := by
 obtain ⟨zs, rfl, hl, hz⟩ := open_arr ht he hct hc hv
 refine ⟨zs.map (BitVec.ofInt 8), ?_, by simpa using hl⟩
 congr 2
 rw [List.map_map]
 refine List.map_congr_left fun z hzm => ?_
 have h := hz z hzm
 simp only [IntKind.has, IntKind.min, IntKind.max, IntKind.signed, IntKind.bits] at h
 simp only [Function.comp, Li.v8, Bv.n8_of]
 congr 1
 simp at h; omega
theorem open_arr32 {W : World} {r : Reach} {base : Nat} {t e : TypeId} {n : Nat} {v : Value} (ht : P.underlying t = some (.array n e)) (he : P.underlying e = some (.int .u32)) (hct : P.cellTypes P.depth t = some (List.replicate n e)) (hc : P.cellsOf t = n) (hv : Value.okWide P W r base t v) :
  ∃ bs : List (BitVec 32), v = .agg (bs.map fun b => Value.int .u32 (Bv.n32 b)).toArray ∧ bs.length = n := by
 obtain ⟨zs, rfl, hl, hz⟩ := open_arr ht he hct hc hv
 refine ⟨zs.map (BitVec.ofInt 32), ?_, by simpa using hl⟩
 congr 2
 rw [List.map_map]
 refine List.map_congr_left fun z hzm => ?_
 have h := hz z hzm
 simp only [IntKind.has, IntKind.min, IntKind.max, IntKind.signed, IntKind.bits] at h
 simp only [Function.comp, Bv.n32_of]
 congr 1
 simp at h; omega
end Lift
end Go.Proofs.YtakdoijemopejaaGreat
/- More operations on memory as steps: stores into a slice of one's own at an address with an equation. No condition but Go's own limits. -/
namespace Go.Proofs.YtakdoijemopejaaGreat
open Go Go.RowKit
namespace Se
open Li (Blk Rd Fr)
theorem Ow.sets {w : World} {s g off n c i : Nat} {xs vs : List Value} (h : Ow w s (some g) (some ⟨g, off, none⟩) n c xs) (hi : i + vs.length ≤ xs.length) (hv : 0 < vs.length) :
  Ow (w.setCells g (off + i) vs) s (some g) (some ⟨g, off, none⟩) n c (xs.take i ++ vs ++ xs.drop (i + vs.length)) ∧ ∃ l t, Blk w g l t ∧ off + i + vs.length ≤ l.length := by
 obtain ⟨h1, h2, h | ⟨g', off', l, t, hA, hr, hb, h3, h4, h5⟩⟩ := h
 ·have : n = 0 := by omega
  subst this; omega
 ·cases hA; cases hr
  have hns : n * s ≤ c * s := Nat.mul_le_mul_right _ h2
  have hl : off + i + vs.length ≤ l.length := by omega
  refine ⟨⟨by simp; omega, h2, .inr ⟨g, off, _, t, rfl, rfl, hb.setCells vs (off + i) hl, by simp; omega, h4, ?_⟩⟩, l, t, hb, hl⟩
  rw [← h5]
  apply List.ext_getElem?
  intro j
  simp only [List.getElem?_take, List.getElem?_drop, List.getElem?_append, List.length_append, List.length_take, List.length_drop]
  repeat' split
  all_goals first | rfl | omega | (congr 1; omega) | (exfalso; omega) | (exact (List.getElem?_eq_none (by omega)).symm) | exact List.getElem?_eq_none (by omega)
section
variable {w0 w : World} {X : List Nat} {L : List At}
theorem St.u11 {x0 y0 : At} (h : St w0 X (x0 :: y0 :: L) w) : St w0 X (y0 :: x0 :: L) w := h.perm (by rw [show x0 :: y0 :: L = ([x0] ++ [y0]) ++ L from rfl, show y0 :: x0 :: L = ([y0] ++ [x0]) ++ L from rfl]; exact List.Perm.append_right L List.perm_append_comm)
theorem St.u12 {x0 x1 y0 : At} (h : St w0 X (x0 :: x1 :: y0 :: L) w) : St w0 X (y0 :: x0 :: x1 :: L) w := h.perm (by rw [show x0 :: x1 :: y0 :: L = ([x0, x1] ++ [y0]) ++ L from rfl, show y0 :: x0 :: x1 :: L = ([y0] ++ [x0, x1]) ++ L from rfl]; exact List.Perm.append_right L List.perm_append_comm)
theorem St.u13 {x0 x1 x2 y0 : At} (h : St w0 X (x0 :: x1 :: x2 :: y0 :: L) w) : St w0 X (y0 :: x0 :: x1 :: x2 :: L) w := h.perm (by rw [show x0 :: x1 :: x2 :: y0 :: L = ([x0, x1, x2] ++ [y0]) ++ L from rfl, show y0 :: x0 :: x1 :: x2 :: L = ([y0] ++ [x0, x1, x2]) ++ L from rfl]; exact List.Perm.append_right L List.perm_append_comm)
theorem St.u14 {x0 x1 x2 x3 y0 : At} (h : St w0 X (x0 :: x1 :: x2 :: x3 :: y0 :: L) w) : St w0 X (y0 :: x0 :: x1 :: x2 :: x3 :: L) w := h.perm (by rw [show x0 :: x1 :: x2 :: x3 :: y0 :: L = ([x0, x1, x2, x3] ++ [y0]) ++ L from rfl, show y0 :: x0 :: x1 :: x2 :: x3 :: L = ([y0] ++ [x0, x1, x2, x3]) ++ L from rfl]; exact List.Perm.append_right L List.perm_append_comm)
theorem St.u15 {x0 x1 x2 x3 x4 y0 : At} (h : St w0 X (x0 :: x1 :: x2 :: x3 :: x4 :: y0 :: L) w) : St w0 X (y0 :: x0 :: x1 :: x2 :: x3 :: x4 :: L) w := h.perm (by rw [show x0 :: x1 :: x2 :: x3 :: x4 :: y0 :: L = ([x0, x1, x2, x3, x4] ++ [y0]) ++ L from rfl, show y0 :: x0 :: x1 :: x2 :: x3 :: x4 :: L = ([y0] ++ [x0, x1, x2, x3, x4]) ++ L from rfl]; exact List.Perm.append_right L List.perm_append_comm)
theorem St.u16 {x0 x1 x2 x3 x4 x5 y0 : At} (h : St w0 X (x0 :: x1 :: x2 :: x3 :: x4 :: x5 :: y0 :: L) w) : St w0 X (y0 :: x0 :: x1 :: x2 :: x3 :: x4 :: x5 :: L) w := h.perm (by rw [show x0 :: x1 :: x2 :: x3 :: x4 :: x5 :: y0 :: L = ([x0, x1, x2, x3, x4, x5] ++ [y0]) ++ L from rfl, show y0 :: x0 :: x1 :: x2 :: x3 :: x4 :: x5 :: L = ([y0] ++ [x0, x1, x2, x3, x4, x5]) ++ L from rfl]; exact List.Perm.append_right L List.perm_append_comm)
theorem St.u21 {x0 y0 y1 : At} (h : St w0 X (x0 :: y0 :: y1 :: L) w) : St w0 X (y0 :: y1 :: x0 :: L) w := h.perm (by rw [show x0 :: y0 :: y1 :: L = ([x0] ++ [y0, y1]) ++ L from rfl, show y0 :: y1 :: x0 :: L = ([y0, y1] ++ [x0]) ++ L from rfl]; exact List.Perm.append_right L List.perm_append_comm)
theorem St.u22 {x0 x1 y0 y1 : At} (h : St w0 X (x0 :: x1 :: y0 :: y1 :: L) w) : St w0 X (y0 :: y1 :: x0 :: x1 :: L) w := h.perm (by rw [show x0 :: x1 :: y0 :: y1 :: L = ([x0, x1] ++ [y0, y1]) ++ L from rfl, show y0 :: y1 :: x0 :: x1 :: L = ([y0, y1] ++ [x0, x1]) ++ L from rfl]; exact List.Perm.append_right L List.perm_append_comm)
theorem St.u23 {x0 x1 x2 y0 y1 : At} (h : St w0 X (x0 :: x1 :: x2 :: y0 :: y1 :: L) w) : St w0 X (y0 :: y1 :: x0 :: x1 :: x2 :: L) w := h.perm (by rw [show x0 :: x1 :: x2 :: y0 :: y1 :: L = ([x0, x1, x2] ++ [y0, y1]) ++ L from rfl, show y0 :: y1 :: x0 :: x1 :: x2 :: L = ([y0, y1] ++ [x0, x1, x2]) ++ L from rfl]; exact List.Perm.append_right L List.perm_append_comm)
theorem St.u24 {x0 x1 x2 x3 y0 y1 : At} (h : St w0 X (x0 :: x1 :: x2 :: x3 :: y0 :: y1 :: L) w) : St w0 X (y0 :: y1 :: x0 :: x1 :: x2 :: x3 :: L) w := h.perm (by rw [show x0 :: x1 :: x2 :: x3 :: y0 :: y1 :: L = ([x0, x1, x2, x3] ++ [y0, y1]) ++ L from rfl, show y0 :: y1 :: x0 :: x1 :: x2 :: x3 :: L = ([y0, y1] ++ [x0, x1, x2, x3]) ++ L from rfl]; exact List.Perm.append_right L List.perm_append_comm)
theorem St.u25 {x0 x1 x2 x3 x4 y0 y1 : At} (h : St w0 X (x0 :: x1 :: x2 :: x3 :: x4 :: y0 :: y1 :: L) w) : St w0 X (y0 :: y1 :: x0 :: x1 :: x2 :: x3 :: x4 :: L) w := h.perm (by rw [show x0 :: x1 :: x2 :: x3 :: x4 :: y0 :: y1 :: L = ([x0, x1, x2, x3, x4] ++ [y0, y1]) ++ L from rfl, show y0 :: y1 :: x0 :: x1 :: x2 :: x3 :: x4 :: L = ([y0, y1] ++ [x0, x1, x2, x3, x4]) ++ L from rfl]; exact List.Perm.append_right L List.perm_append_comm)
theorem St.u26 {x0 x1 x2 x3 x4 x5 y0 y1 : At} (h : St w0 X (x0 :: x1 :: x2 :: x3 :: x4 :: x5 :: y0 :: y1 :: L) w) : St w0 X (y0 :: y1 :: x0 :: x1 :: x2 :: x3 :: x4 :: x5 :: L) w := h.perm (by rw [show x0 :: x1 :: x2 :: x3 :: x4 :: x5 :: y0 :: y1 :: L = ([x0, x1, x2, x3, x4, x5] ++ [y0, y1]) ++ L from rfl, show y0 :: y1 :: x0 :: x1 :: x2 :: x3 :: x4 :: x5 :: L = ([y0, y1] ++ [x0, x1, x2, x3, x4, x5]) ++ L from rfl]; exact List.Perm.append_right L List.perm_append_comm)
theorem St.u31 {x0 y0 y1 y2 : At} (h : St w0 X (x0 :: y0 :: y1 :: y2 :: L) w) : St w0 X (y0 :: y1 :: y2 :: x0 :: L) w := h.perm (by rw [show x0 :: y0 :: y1 :: y2 :: L = ([x0] ++ [y0, y1, y2]) ++ L from rfl, show y0 :: y1 :: y2 :: x0 :: L = ([y0, y1, y2] ++ [x0]) ++ L from rfl]; exact List.Perm.append_right L List.perm_append_comm)
theorem St.u32 {x0 x1 y0 y1 y2 : At} (h : St w0 X (x0 :: x1 :: y0 :: y1 :: y2 :: L) w) : St w0 X (y0 :: y1 :: y2 :: x0 :: x1 :: L) w := h.perm (by rw [show x0 :: x1 :: y0 :: y1 :: y2 :: L = ([x0, x1] ++ [y0, y1, y2]) ++ L from rfl, show y0 :: y1 :: y2 :: x0 :: x1 :: L = ([y0, y1, y2] ++ [x0, x1]) ++ L from rfl]; exact List.Perm.append_right L List.perm_append_comm)
theorem St.u33 {x0 x1 x2 y0 y1 y2 : At} (h : St w0 X (x0 :: x1 :: x2 :: y0 :: y1 :: y2 :: L) w) : St w0 X (y0 :: y1 :: y2 :: x0 :: x1 :: x2 :: L) w := h.perm (by rw [show x0 :: x1 :: x2 :: y0 :: y1 :: y2 :: L = ([x0, x1, x2] ++ [y0, y1, y2]) ++ L from rfl, show y0 :: y1 :: y2 :: x0 :: x1 :: x2 :: L = ([y0, y1, y2] ++ [x0, x1, x2]) ++ L from rfl]; exact List.Perm.append_right L List.perm_append_comm)
theorem St.u34 {x0 x1 x2 x3 y0 y1 y2 : At} (h : St w0 X (x0 :: x1 :: x2 :: x3 :: y0 :: y1 :: y2 :: L) w) : St w0 X (y0 :: y1 :: y2 :: x0 :: x1 :: x2 :: x3 :: L) w := h.perm (by rw [show x0 :: x1 :: x2 :: x3 :: y0 :: y1 :: y2 :: L = ([x0, x1, x2, x3] ++ [y0, y1, y2]) ++ L from rfl, show y0 :: y1 :: y2 :: x0 :: x1 :: x2 :: x3 :: L = ([y0, y1, y2] ++ [x0, x1, x2, x3]) ++ L from rfl]; exact List.Perm.append_right L List.perm_append_comm)
theorem St.u35 {x0 x1 x2 x3 x4 y0 y1 y2 : At} (h : St w0 X (x0 :: x1 :: x2 :: x3 :: x4 :: y0 :: y1 :: y2 :: L) w) : St w0 X (y0 :: y1 :: y2 :: x0 :: x1 :: x2 :: x3 :: x4 :: L) w := h.perm (by rw [show x0 :: x1 :: x2 :: x3 :: x4 :: y0 :: y1 :: y2 :: L = ([x0, x1, x2, x3, x4] ++ [y0, y1, y2]) ++ L from rfl, show y0 :: y1 :: y2 :: x0 :: x1 :: x2 :: x3 :: x4 :: L = ([y0, y1, y2] ++ [x0, x1, x2, x3, x4]) ++ L from rfl]; exact List.Perm.append_right L List.perm_append_comm)
theorem St.u36 {x0 x1 x2 x3 x4 x5 y0 y1 y2 : At} (h : St w0 X (x0 :: x1 :: x2 :: x3 :: x4 :: x5 :: y0 :: y1 :: y2 :: L) w) : St w0 X (y0 :: y1 :: y2 :: x0 :: x1 :: x2 :: x3 :: x4 :: x5 :: L) w := h.perm (by rw [show x0 :: x1 :: x2 :: x3 :: x4 :: x5 :: y0 :: y1 :: y2 :: L = ([x0, x1, x2, x3, x4, x5] ++ [y0, y1, y2]) ++ L from rfl, show y0 :: y1 :: y2 :: x0 :: x1 :: x2 :: x3 :: x4 :: x5 :: L = ([y0, y1, y2] ++ [x0, x1, x2, x3, x4, x5]) ++ L from rfl]; exact List.Perm.append_right L List.perm_append_comm)
theorem St.u41 {x0 y0 y1 y2 y3 : At} (h : St w0 X (x0 :: y0 :: y1 :: y2 :: y3 :: L) w) : St w0 X (y0 :: y1 :: y2 :: y3 :: x0 :: L) w := h.perm (by rw [show x0 :: y0 :: y1 :: y2 :: y3 :: L = ([x0] ++ [y0, y1, y2, y3]) ++ L from rfl, show y0 :: y1 :: y2 :: y3 :: x0 :: L = ([y0, y1, y2, y3] ++ [x0]) ++ L from rfl]; exact List.Perm.append_right L List.perm_append_comm)
theorem St.u42 {x0 x1 y0 y1 y2 y3 : At} (h : St w0 X (x0 :: x1 :: y0 :: y1 :: y2 :: y3 :: L) w) : St w0 X (y0 :: y1 :: y2 :: y3 :: x0 :: x1 :: L) w := h.perm (by rw [show x0 :: x1 :: y0 :: y1 :: y2 :: y3 :: L = ([x0, x1] ++ [y0, y1, y2, y3]) ++ L from rfl, show y0 :: y1 :: y2 :: y3 :: x0 :: x1 :: L = ([y0, y1, y2, y3] ++ [x0, x1]) ++ L from rfl]; exact List.Perm.append_right L List.perm_append_comm)
theorem St.u43 {x0 x1 x2 y0 y1 y2 y3 : At} (h : St w0 X (x0 :: x1 :: x2 :: y0 :: y1 :: y2 :: y3 :: L) w) : St w0 X (y0 :: y1 :: y2 :: y3 :: x0 :: x1 :: x2 :: L) w := h.perm (by rw [show x0 :: x1 :: x2 :: y0 :: y1 :: y2 :: y3 :: L = ([x0, x1, x2] ++ [y0, y1, y2, y3]) ++ L from rfl, show y0 :: y1 :: y2 :: y3 :: x0 :: x1 :: x2 :: L = ([y0, y1, y2, y3] ++ [x0, x1, x2]) ++ L from rfl]; exact List.Perm.append_right L List.perm_append_comm)
theorem St.u44 {x0 x1 x2 x3 y0 y1 y2 y3 : At} (h : St w0 X (x0 :: x1 :: x2 :: x3 :: y0 :: y1 :: y2 :: y3 :: L) w) : St w0 X (y0 :: y1 :: y2 :: y3 :: x0 :: x1 :: x2 :: x3 :: L) w := h.perm (by rw [show x0 :: x1 :: x2 :: x3 :: y0 :: y1 :: y2 :: y3 :: L = ([x0, x1, x2, x3] ++ [y0, y1, y2, y3]) ++ L from rfl, show y0 :: y1 :: y2 :: y3 :: x0 :: x1 :: x2 :: x3 :: L = ([y0, y1, y2, y3] ++ [x0, x1, x2, x3]) ++ L from rfl]; exact List.Perm.append_right L List.perm_append_comm)
theorem St.u45 {x0 x1 x2 x3 x4 y0 y1 y2 y3 : At} (h : St w0 X (x0 :: x1 :: x2 :: x3 :: x4 :: y0 :: y1 :: y2 :: y3 :: L) w) : St w0 X (y0 :: y1 :: y2 :: y3 :: x0 :: x1 :: x2 :: x3 :: x4 :: L) w := h.perm (by rw [show x0 :: x1 :: x2 :: x3 :: x4 :: y0 :: y1 :: y2 :: y3 :: L = ([x0, x1, x2, x3, x4] ++ [y0, y1, y2, y3]) ++ L from rfl, show y0 :: y1 :: y2 :: y3 :: x0 :: x1 :: x2 :: x3 :: x4 :: L = ([y0, y1, y2, y3] ++ [x0, x1, x2, x3, x4]) ++ L from rfl]; exact List.Perm.append_right L List.perm_append_comm)
theorem St.u46 {x0 x1 x2 x3 x4 x5 y0 y1 y2 y3 : At} (h : St w0 X (x0 :: x1 :: x2 :: x3 :: x4 :: x5 :: y0 :: y1 :: y2 :: y3 :: L) w) : St w0 X (y0 :: y1 :: y2 :: y3 :: x0 :: x1 :: x2 :: x3 :: x4 :: x5 :: L) w := h.perm (by rw [show x0 :: x1 :: x2 :: x3 :: x4 :: x5 :: y0 :: y1 :: y2 :: y3 :: L = ([x0, x1, x2, x3, x4, x5] ++ [y0, y1, y2, y3]) ++ L from rfl, show y0 :: y1 :: y2 :: y3 :: x0 :: x1 :: x2 :: x3 :: x4 :: x5 :: L = ([y0, y1, y2, y3] ++ [x0, x1, x2, x3, x4, x5]) ++ L from rfl]; exact List.Perm.append_right L List.perm_append_comm)
end
section
variable {P : Program} {w0 w : World} {X : List Nat} {L : List At} {o : Oper} {a : Act} {G : Value → World → Prop}
/-- As 'soo', at an address with an equation; the new cells by an equation. -/
theorem sooe (k : Nat) (hs : St w0 X L w) {ty : TypeId} {x y : Operand} (ho : o.op = .store ty x y) {g off i o' : Nat} (hx : a.eval x = .pointer (some ⟨g, o', none⟩)) {s n c : Nat} {xs ys : List Value} (hk : L[k]? = some (.own s (some g) (some ⟨g, off, none⟩) n c xs)) {v : Value} (hy : a.eval y = v) (h1 : v.oneCell' = true) (hi : (P.info? ty).map (·.size) = some 1) (he : o' = off + i) (hl : i < xs.length) (hys : xs.set i v = ys)
  (h : ∀ w', St w0 X (L.set k (.own s (some g) (some ⟨g, off, none⟩) n c ys)) w' → G undef w') : Hv.Gives P o a w G := by
 subst he hys
 exact soo k hs ho hx hk hy h1 hi hl h
/-- As 'so'; the new cells by an equation. -/
theorem soq (k : Nat) (hs : St w0 X L w) {ty : TypeId} {x y : Operand} (ho : o.op = .store ty x y) {g i : Nat} (hx : a.eval x = .pointer (some ⟨g, i, none⟩)) {t : TypeId} {l ys : List Value} (hk : L[k]? = some (.blk g t l)) {v : Value} (hy : a.eval y = v) (h1 : v.oneCell' = true) (hi : (P.info? ty).map (·.size) = some 1) (hl : i < l.length) (hys : l.set i v = ys)
  (h : ∀ w', St w0 X (L.set k (.blk g t ys)) w' → G undef w') : Hv.Gives P o a w G := by
 subst hys
 exact so k hs ho hx hk hy h1 hi hl h
/-- Several cells into a slice of one's own. -/
theorem soae (k : Nat) (hs : St w0 X L w) {ty : TypeId} {x y : Operand} (ho : o.op = .store ty x y) {g off i o' : Nat} (hx : a.eval x = .pointer (some ⟨g, o', none⟩)) {s n c : Nat} {xs ys vs : List Value} (hk : L[k]? = some (.own s (some g) (some ⟨g, off, none⟩) n c xs)) (hy : a.eval y = .agg vs.toArray) (h1 : ∀ v ∈ vs, v.oneCell' = true) (hi : (P.info? ty).map (·.size) = some vs.length) (h0 : 0 < vs.length) (he : o' = off + i) (hl : i + vs.length ≤ xs.length) (hys : xs.take i ++ vs ++ xs.drop (i + vs.length) = ys)
  (h : ∀ w', St w0 X (L.set k (.own s (some g) (some ⟨g, off, none⟩) n c ys)) w' → G undef w') : Hv.Gives P o a w G := by
 subst he hys
 obtain ⟨e1, l, t, hb, hl2⟩ := Ow.sets (hs.hold _ (List.mem_of_getElem? hk)) hl h0
 have hr := run_storeVar_mid (P := P) w g (off + i) ty vs.toArray (hb.there (by simpa using hl2)) (by simpa using hi) (all_oneCell_toArray h1)
 unfold Hv.Gives execOp
 simp only [ho, hx, hy, Instr.storeAt, Instr.sureAddr, Sem.run_bind, Sem.run_pure, Result.andThen_ok, hr]
 exact h _ (St.turnAt k hk hs ((Fr.refl _ w).setCells (by simp [At.owned]) _ _) e1 trivial (by simp [At.owned]) (by simp [At.owned]))
end
/-- What the result variables hold. -/
def resOk (P : Program) (L : List At) (tmps : Array Value) : List ResultVar → List Value → Prop
 | [], [] => True
 | .tmp t :: rs, v :: vs => tmps.getD t undef = v ∧ resOk P L tmps rs vs
 | .cell p ty :: rs, v :: vs => (∃ g xs, tmps.getD p undef = .pointer (some ⟨g, 0, none⟩) ∧ Reads L (some ⟨g, 0, none⟩) xs ∧ (P.underlying ty).map TypeDesc.isRow = some true ∧ (P.info? ty).map (·.size) = some xs.length ∧ v = .agg xs.toArray) ∧ resOk P L tmps rs vs
 | _, _ => False
theorem run_loadVar_reads {P : Program} {w0 w : World} {X : List Nat} {L : List At} (hs : St w0 X L w) {g : Nat} {ty : TypeId} {xs : List Value} (hr : Reads L (some ⟨g, 0, none⟩) xs) (hd : (P.underlying ty).map TypeDesc.isRow = some true) (hi : (P.info? ty).map (·.size) = some xs.length) : (loadVar ty ⟨g, 0, none⟩).run P w = .ok (.agg xs.toArray) w := by
 cases hu : P.underlying ty with
 | none => simp [hu] at hd
 | some d =>
  simp only [hu, Option.map_some, Option.some.injEq] at hd
  have hc : w.rangeAt g 0 xs := fun j v hv => hr.cell j hv w hs.hold
  have h := run_loadAt_mid (P := P) w g 0 ty xs d hc hu hd hi
  simpa [Instr.loadAt, Instr.sureAddr] using h
def resF (tmps : Array Value) : ResultVar → Sem Value
 | .tmp t => pure (tmps.getD t undef)
 | .cell a t => do loadVar t (← asAddr (tmps.getD a undef))
theorem run_results {P : Program} {w0 w : World} {X : List Nat} {L : List At} (hs : St w0 X L w) {fn : Func} {tmps : Array Value} {rs : List ResultVar} {vs : List Value} (hr : fn.results = rs.toArray) (h : resOk P L tmps rs vs) (h2 : 2 ≤ vs.length) : (results fn tmps).run P w = .ok (.tuple vs.toArray) w := by
 have key : ∀ (rs : List ResultVar) (vs : List Value), resOk P L tmps rs vs → (rs.mapM (resF tmps)).run P w = .ok vs w := by
  intro rs
  induction rs with
  | nil =>
   intro vs h
   cases vs with
   | nil => simp
   | cons v vs => simp [resOk] at h
  | cons r rs ih =>
   intro vs h
   cases vs with
   | nil => cases r <;> simp [resOk] at h
   | cons v vs =>
    cases r with
    | tmp t =>
     obtain ⟨h1, h2⟩ := h
     have := ih vs h2
     simp only [List.mapM_cons, Sem.run_bind, Sem.run_pure, Result.andThen_ok, this, h1, resF]
    | cell p ty =>
     obtain ⟨⟨g, xs, h1, h3, h4, h5, rfl⟩, h2⟩ := h
     have := ih vs h2
     simp only [List.mapM_cons, Sem.run_bind, Sem.run_pure, Result.andThen_ok, this, h1, resF, asAddr, run_loadVar_reads hs h3 h4 h5]
 have hk := key rs vs h
 have e : results fn tmps = (do
   let vs ← fn.results.mapM (resF tmps)
   pure (if h : vs.size = 1 then vs[0] else .tuple vs)) := rfl
 rw [e, hr]
 simp only [Sem.run_bind]
 have e2 : Sem.run P (Array.mapM (resF tmps) rs.toArray) w = .ok vs.toArray w := by
  rw [List.mapM_toArray, map_eq_pure_bind, Sem.run_bind, hk]
  simp
 rw [e2]
 simp only [Result.andThen_ok, Sem.run_pure, List.size_toArray, dif_neg (show ¬ vs.length = 1 by omega)]
/-- The end of a function whose result variables lie in memory, or in slots. -/
theorem ret {P : Program} {w0 w : World} {X : List Nat} {L : List At} (hs : St w0 X L w) {fn : Func} {R : Ending → World → Prop} {a : Act} {rs : List ResultVar} (vs : List Value) (hr : fn.results = rs.toArray) (h : resOk P L a.tmps rs vs) (h2 : 2 ≤ vs.length) (hdf : a.defers = []) (hR : R (.returned (.tuple vs.toArray)) w) : bodyPost P fn R .ret a w :=
 bodyPost_ret (run_results hs hr h h2) hdf hR
theorem resRow {P : Program} {L : List At} {tmps : Array Value} {p : Tmp} {g : Nat} {ty : TypeId} {xs : List Value} (h1 : tmps.getD p undef = .pointer (some ⟨g, 0, none⟩)) (hr : Reads L (some ⟨g, 0, none⟩) xs) (hd : (P.underlying ty).map TypeDesc.isRow = some true) (hi : (P.info? ty).map (·.size) = some xs.length) : ∃ g xs', tmps.getD p undef = .pointer (some ⟨g, 0, none⟩) ∧ Reads L (some ⟨g, 0, none⟩) xs' ∧ (P.underlying ty).map TypeDesc.isRow = some true ∧ (P.info? ty).map (·.size) = some xs'.length ∧ Value.agg xs.toArray = .agg xs'.toArray := ⟨g, xs, h1, hr, hd, hi, rfl⟩
theorem St.dup {w0 w : World} {X : List Nat} {L : List At} {A : Option Addr} {xs : List Value} (hs : St w0 X L w) (hm : At.rd A xs ∈ L) : St w0 X (.rd A xs :: L) w := hs.addRd (hs.hold _ hm) fun b hb => hs.sep _ hm b hb
section
variable {P : Program} {w0 w : World} {X : List Nat} {L : List At} {o : Oper} {a : Act} {G : Value → World → Prop}
theorem run_copy_rows (w : World) (dT sT ty elem : TypeId) (g o dLen dCap : Nat) (a : Addr) (sLen sCap s : Nat) (cur : Array Value) (t : TypeId) (cs : List Value)
  (hu : P.underlying dT = some (.slice elem)) (hs : (P.info? elem).map (·.size) = some s)
  (hg : w.heap[g]? = some (.cells cur t (0, 0))) (hn : cs.length = Nat.min sLen dLen * s)
  (hsrc : ∀ j v, cs[j]? = some v → w.cell? (a.add j) = some v) (hfit : o + cs.length ≤ cur.size) (h1 : ∀ v ∈ cs, v.oneCell' = true) :
  (Builtin.copy_ #[dT, sT] ty #[.slice (some ⟨g, o, none⟩) dLen dCap, .slice (some a) sLen sCap]).run P w =
   .ok (goInt (Nat.min sLen dLen)) (w.setRow g (cur.toList.take o ++ cs ++ cur.toList.drop (o + cs.length)).toArray) := by
 have hl := run_loadCells_list (P := P) w a cs hsrc
 have hst := run_storeCells_at P g o t cs 0 cur w hg (by simpa using hfit) h1
 rw [hn] at hl
 cases hq : P.info? elem with
 | none => simp [hq] at hs
 | some i =>
  have hi : i.size = s := by simpa [hq] using hs
  simp [Builtin.copy_, run_underlying hu, Builtin.lenOf, Builtin.firstCells, sizeOf, typeInfo, hq, hi, hl, hst]
/-- copy of elements of several cells into a block of one's own (the source may lie in the same block). -/
theorem cpr (k : Nat) (hs : St w0 X L w) {x y : Operand} {t u e : TypeId} (ho : o.op = .call { callee := .builtin .copy, args := #[x, y], argTypes := #[t, u] })
  {g off n c m cy s : Nat} {B : Option Addr} (hx : a.eval x = .slice (some ⟨g, off, none⟩) n c) (hy : a.eval y = .slice B m cy) {te : TypeId} {l : List Value} (hk : L[k]? = some (.blk g te l)) {ys : List Value} (hr : Reads L B ys)
  (ht : P.underlying t = some (.slice e)) (hi : (P.info? e).map (·.size) = some s) (h1 : ∀ v ∈ ys, v.oneCell' = true) (hm : ys.length = m * s) (hl : off + n * s ≤ l.length) (_hn0 : 0 < n) (hm0 : 0 < m) (hs0 : 0 < s) {q : Nat} (hq : Nat.min m n = q) {l2 : List Value} (hl2 : l.take off ++ (ys.take (q * s) ++ l.drop (off + q * s)) = l2)
  (h : ∀ (w' : World), St w0 X (L.set k (.blk g te l2)) w' → G (.int .i64 q) w') : Hv.Gives P o a w G := by
 subst hl2
 have hb : Blk w g l te := hs.hold _ (List.mem_of_getElem? hk)
 have hqm : q ≤ m := by rw [← hq]; exact Nat.min_le_left _ _
 have hqn : q ≤ n := by rw [← hq]; exact Nat.min_le_right _ _
 have hqs : q * s ≤ m * s := Nat.mul_le_mul_right _ hqm
 have hqs2 : q * s ≤ n * s := Nat.mul_le_mul_right _ hqn
 have hlen : (ys.take (q * s)).length = q * s := by rw [List.length_take, hm]; omega
 have hne : ys ≠ [] := by
  intro h
  rw [h] at hm
  have := Nat.mul_pos hm0 hs0
  simp at hm; omega
 obtain ⟨g2, o2, rfl, _, hc2⟩ := (hr w hs.hold).cells hne
 have hrun := run_copy_rows (P := P) w t u o.type e g off n c ⟨g2, o2, none⟩ m cy s l.toArray te (ys.take (q * s)) ht hi hb (by rw [hlen, hq])
  (fun j v hv => by
   have hj := (List.getElem?_eq_some_iff.1 hv).1
   rw [List.getElem?_take_of_lt (by omega)] at hv
   rw [Addr.add_lit, hc2 j (by omega)]; exact hv)
  (by simp only [List.size_toArray]; omega) (fun v hv => h1 v (List.mem_of_mem_take hv))
 unfold Hv.Gives execOp
 simp only [ho, resolve, invoke, builtin, Sem.run_bind, Sem.run_pure, Result.andThen_ok, List.map_toArray, List.map_cons, List.map_nil, hx, hy, hrun]
 rw [hq]
 refine h _ ?_
 refine St.turnAt k hk hs ⟨rfl, rfl, rfl, by simp [World.setRow], fun b _ hX => setRow_other w g b _ (by simpa [At.owned] using hX)⟩ ?_ trivial (by simp [At.owned]) (by simp [At.owned])
 have e := setRow_heap w g l.toArray ((l.take off ++ (ys.take (q * s) ++ l.drop (off + (ys.take (q * s)).length))).toArray) te (0, 0) hb
 rw [← List.append_assoc] at e ⊢
 rw [hlen] at e ⊢
 exact e
end
end Se
end Go.Proofs.YtakdoijemopejaaGreat
/- More operations as steps: a composite value whose cells are known. No condition but Go's own limits. -/
namespace Go.Proofs.YtakdoijemopejaaGreat
open Go Go.RowKit
namespace Se
open Li (Blk Rd Fr)
section
variable {P : Program} {w0 w : World} {X : List Nat} {L : List At} {o : Oper} {a : Act} {G : Value → World → Prop}
theorem bd {ty : TypeId} {parts : List (Nat × Operand)} (ho : o.op = .build ty parts.toArray) {vs : List (Nat × Value)} (hv : parts.map (fun p => (p.1, a.eval p.2)) = vs) {v : Value} (hb : (Instr.build ty vs.toArray).run P w = .ok v w) (h : G v w) : Hv.Gives P o a w G := by
 subst hv
 unfold Hv.Gives execOp
 have e : (parts.toArray.map fun (i, x) => (i, a.eval x)) = (parts.map (fun p => (p.1, a.eval p.2))).toArray := by simp
 simp only [ho, e, Sem.run_bind, hb, Result.andThen_ok, Sem.run_pure]
 exact h
theorem foldl_set (off : Nat) (xs : List Value) : ∀ (k : Nat) (cs : Array Value), off + k + xs.length ≤ cs.size → ((xs.zipIdx k).foldl (fun cs (p : Value × Nat) => cs.setIfInBounds (off + p.2) p.1) cs).toList = cs.toList.take (off + k) ++ xs ++ cs.toList.drop (off + k + xs.length) := by
 induction xs with
 | nil => intro k cs h; simp
 | cons x xs ih =>
  intro k cs h
  have e : ((x :: xs).zipIdx k).foldl (fun cs (p : Value × Nat) => cs.setIfInBounds (off + p.2) p.1) cs = (xs.zipIdx (k + 1)).foldl (fun cs (p : Value × Nat) => cs.setIfInBounds (off + p.2) p.1) (cs.setIfInBounds (off + k) x) := by simp
  rw [e, ih (k + 1) _ (by simp at h ⊢; omega)]
  simp only [Array.toList_setIfInBounds]
  have := list_seg_step cs.toList (off + k) x xs (by simp at h ⊢; omega)
  rw [← Nat.add_assoc, this]
  simp [Nat.add_assoc]
theorem fill_row {s : Nat} {cs0 : Array Value} (h0 : cs0.size = s) {xs : List Value} (hx : xs.length = s) : Instr.fill (fun i => some (i * s, s)) cs0 [(0, .agg xs.toArray)] = some xs.toArray := by
 have e := foldl_set (0 * s) xs 0 cs0 (by omega)
 rw [Nat.zero_mul, Nat.add_zero, List.take_zero, List.nil_append, Nat.zero_add, List.drop_eq_nil_of_le (by simp; omega), List.append_nil] at e
 simp only [Instr.fill, Value.cells, Nat.zero_mul, Nat.zero_add] at e ⊢
 rw [if_neg (by simp; omega)]
 have e3 : xs.toArray.zipIdx = xs.zipIdx.toArray := by apply Array.toList_inj.1; simp
 rw [e3, List.foldl_toArray]
 congr 1
 apply Array.toList_inj.1
 exact e
/-- A literal slice of one element of several cells. -/
theorem bs1 (hs : St w0 X L w) {ty : TypeId} {x : Operand} (ho : o.op = .buildSlice ty 1 #[(0, x)]) {e : TypeId} (ht : P.underlying ty = some (.slice e)) {z : Value} {s b : Nat} (hi : (P.info? e).map (fun i => (i.zero, i.size, i.bytes)) = some (some z, s, b)) (hb : s ≤ 16777216) (h0 : s ≠ 0) {xs : List Value} (hx : a.eval x = .agg xs.toArray) (hl : xs.length = s)
  (h : ∀ (w' : World) (g : Nat), g = w.heap.size → St w0 X (.blk g e xs :: L) w' → G (.slice (some ⟨g, 0, none⟩) 1 1) w') : Hv.Gives P o a w G := by
 refine bs hs ho ht (z := z) (s := s) ?_ (by omega) (by omega) (cs := xs.toArray) ?_ h
 ·cases hq : P.info? e with
  | none => simp [hq] at hi
  | some i =>
   simp [hq] at hi ⊢
   exact ⟨hi.1, hi.2.1⟩
 ·simp only [List.map_toArray, List.map_cons, List.map_nil, hx]
  exact fill_row (by simp) hl
end
end Se
end Go.Proofs.YtakdoijemopejaaGreat
/- Opening values of struct types whose cells are integers and booleans. No condition. -/
namespace Go.Proofs.YtakdoijemopejaaGreat
open Go Go.ChangeShapes Go.WideShapes Go.ChangeAt Go.RowKit
namespace Lift
variable {P : Program}
theorem open_flat {W : World} {r : Reach} {base : Nat} {t : TypeId} {fs : Array Field} {ts : List TypeId} {v : Value} (ht : P.underlying t = some (.struct fs)) (hct : P.cellTypes P.depth t = some ts) (hc : P.cellsOf t = ts.length) (hv : Value.okWide P W r base t v) :
  ∃ cs : List Value, v = .agg cs.toArray ∧ cs.length = ts.length ∧ ∀ (i : Nat) (u : TypeId) (x : Value), ts[i]? = some u → cs[i]? = some x →
   (∀ k, P.underlying u = some (TypeDesc.int k) → ∃ z, x = Value.int k z ∧ k.has z) ∧ (P.underlying u = some TypeDesc.bool → ∃ b, x = Value.bool b) := by
 unfold Value.okWide at hv
 rw [ht] at hv
 obtain ⟨cs, rfl, hsz, ts', hts, _, hcell⟩ := hv
 rw [hct] at hts
 cases hts
 refine ⟨cs.toList, by simp, by simp [hsz, hc], fun i u x hu hx => ?_⟩
 have hi : i < ts.length := (List.getElem?_eq_some_iff.1 hu).1
 obtain ⟨u', hu', hok⟩ := hcell i x (by simpa using hx)
 rw [Nat.mod_eq_of_lt hi, hu] at hu'
 cases hu'
 refine ⟨fun k hk => ?_, fun hk => ?_⟩
 ·unfold Cell.okWide Cell.ok at hok
  rw [hk] at hok
  cases x <;> simp at hok
  obtain ⟨rfl, h2⟩ := hok
  exact ⟨_, rfl, h2⟩
 ·unfold Cell.okWide Cell.ok at hok
  rw [hk] at hok
  cases x <;> simp at hok
  exact ⟨_, rfl⟩
end Lift
end Go.Proofs.YtakdoijemopejaaGreat
/- Values of flat types (structs and arrays of integers and booleans, nested), alone and in slices, opened to their cells. No condition. -/
namespace Go.Proofs.YtakdoijemopejaaGreat
open Go Go.ChangeShapes Go.WideShapes Go.ChangeAt Go.RowKit
namespace Lift
/-- The kinds of a flat type's cells: none for a boolean. -/
def fkF (P : Program) (rec : TypeId → Option (List (Option IntKind))) (t : TypeId) : List Field → Nat → Option (List (Option IntKind))
 | [], o => if o = P.cellsOf t then some [] else none
 | f :: fs, o => if f.offset = o then (rec f.type).bind fun ks => if ks.length = P.cellsOf f.type then (fkF P rec t fs (o + ks.length)).map (ks ++ ·) else none else none
def fk (P : Program) : Nat → TypeId → Option (List (Option IntKind))
 | 0, _ => none
 | n + 1, t =>
  match P.underlying t with
  | some .bool => some [none]
  | some (.int k) => some [some k]
  | some (.struct fs) => fkF P (fk P n) t fs.toList 0
  | some (.array m e) => (fk P n e).bind fun ks => if ks.length = P.cellsOf e ∧ m * ks.length = P.cellsOf t then some (List.replicate m ks).flatten else none
  | _ => none
def fit1 : Option IntKind → Value → Prop
 | none, v => ∃ b, v = .bool b
 | some k, v => ∃ z, v = .int k z ∧ (Lit.int k z).wf = true
def fit : List (Option IntKind) → List Value → Prop
 | [], vs => vs = []
 | k :: ks, vs => ∃ v us, vs = v :: us ∧ fit1 k v ∧ fit ks us
theorem fit_append : ∀ {ks js : List (Option IntKind)} {vs us : List Value}, fit ks vs → fit js us → fit (ks ++ js) (vs ++ us)
 | [], _, vs, _, h, h2 => by
  have : vs = [] := h
  subst this; exact h2
 | k :: ks, _, vs, _, h, h2 => by
  obtain ⟨v, us, rfl, h1, h⟩ := h
  exact ⟨v, _, rfl, h1, fit_append h h2⟩
theorem fit_len : ∀ {ks : List (Option IntKind)} {vs : List Value}, fit ks vs → vs.length = ks.length
 | [], vs, h => by
  have : vs = [] := h
  subst this; rfl
 | k :: ks, vs, h => by
  obtain ⟨v, us, rfl, _, h⟩ := h
  simp [fit_len h]
theorem take_drop_split (cs : List Value) (o m : Nat) : cs.drop o = (cs.drop o).take m ++ cs.drop (o + m) := by
 rw [← List.drop_drop, List.take_append_drop]
section
variable {H : Type} {enc : TypeId × Value → H} {P : Program} {w : World} {base : Nat} {spare : Nat → Bool} {held : Bool}
theorem fit_fields {rec : TypeId → Option (List (Option IntKind))} {t : TypeId} {cs : List Value} (hcs : cs.length = P.cellsOf t) : ∀ (fs : List Field) (o : Nat) (ks : List (Option IntKind)), fkF P rec t fs o = some ks →
  (∀ f ∈ fs, ∀ js, rec f.type = some js → fit js ((cs.drop f.offset).take (P.cellsOf f.type))) → fit ks (cs.drop o)
 | [], o, ks, h, _ => by
  unfold fkF at h
  split at h
  ·cases h
   show cs.drop o = []
   exact List.drop_eq_nil_of_le (by omega)
  ·cases h
 | f :: fs, o, ks, h, hf => by
  unfold fkF at h
  split at h
  ·rename_i ho
   subst ho
   cases hr : rec f.type with
   | none => simp [hr] at h
   | some js =>
    rw [hr, Option.bind_some] at h
    split at h
    ·rename_i hl
     cases hq : fkF P rec t fs (f.offset + js.length) with
     | none => simp [hq] at h
     | some qs =>
      simp only [hq, Option.map_some, Option.some.injEq] at h
      subst h
      rw [take_drop_split cs f.offset js.length]
      refine fit_append ?_ (fit_fields hcs fs _ _ hq fun g hg => hf g (List.mem_cons_of_mem _ hg))
      rw [hl]
      exact hf f List.mem_cons_self _ hr
    ·cases h
  ·cases h
theorem fit_reps {ks : List (Option IntKind)} {cs : List Value} : ∀ (m i : Nat), cs.length = (i + m) * ks.length → (∀ j, i ≤ j → j < i + m → fit ks ((cs.drop (j * ks.length)).take ks.length)) → fit (List.replicate m ks).flatten (cs.drop (i * ks.length))
 | 0, i, hl, _ => by
  show cs.drop _ = []
  exact List.drop_eq_nil_of_le (by rw [hl]; simp)
 | m + 1, i, hl, h => by
  rw [List.replicate_succ, List.flatten_cons, take_drop_split cs (i * ks.length) ks.length]
  refine fit_append (h i (Nat.le_refl _) (by omega)) ?_
  rw [← Nat.succ_mul]
  exact fit_reps m (i + 1) (by rw [hl]; congr 1; omega) fun j h1 h2 => h j (by omega) (by omega)
theorem fit_of : ∀ (n : Nat) {t : TypeId} {fuel : Nat} {cs : List Value} {x : DataW H × List MemPlace} {ks : List (Option IntKind)}, fk P n t = some ks → DataW.trod enc P w base spare held fuel t cs = some x → fit ks cs
 | 0, _, _, _, _, _, hk, _ => by simp [fk] at hk
 | n + 1, t, fuel, cs, x, ks, hk, h => by
  unfold fk at hk
  split at hk
  ·rename_i ht
   cases hk
   obtain ⟨b, rfl, _⟩ := DataW.trod_bool ht h
   exact ⟨_, [], rfl, ⟨b, rfl⟩, rfl⟩
  ·rename_i k ht
   cases hk
   obtain ⟨z, rfl, _, hz⟩ := DataW.trod_int ht h
   exact ⟨_, [], rfl, ⟨z, rfl, hz⟩, rfl⟩
  ·rename_i fs ht
   obtain ⟨xs, m, _, _, hl, hxl, hx⟩ := DataW.trod_struct ht h
   have := fit_fields (cs := cs) hl _ _ _ hk fun f hf js hjs => by
    obtain ⟨i, hi, rfl⟩ := List.getElem_of_mem hf
    have hi' : i < fs.size := by simpa using hi
    have e := hx i fs[i] (by simp [hi'])
    rw [List.getElem?_eq_getElem (by omega)] at e
    simp only [Array.getElem_toList] at hjs ⊢
    exact fit_of n hjs e
   simpa using this
  ·rename_i m e ht
   cases hr : fk P n e with
   | none => simp [hr] at hk
   | some js =>
    rw [hr, Option.bind_some] at hk
    split at hk
    ·rename_i hc
     cases hk
     obtain ⟨xs, m', _, _, hl, hxl, hx⟩ := DataW.trod_array ht h
     have := fit_reps (ks := js) (cs := cs) m 0 (by rw [hl, ← hc.2]; simp) fun j _ h2 => by
      have e := hx j (by omega)
      rw [List.getElem?_eq_getElem (by omega)] at e
      rw [hc.1]
      exact fit_of n hr e
     simpa using this
    ·cases hk
  ·cases hk
end
theorem flatten_len {α : Type} {k : Nat} : ∀ (l : List (List α)), (∀ x ∈ l, x.length = k) → l.flatten.length = l.length * k
 | [], _ => by simp
 | x :: l, h => by
  rw [List.flatten_cons, List.length_append, h x List.mem_cons_self, flatten_len l fun y hy => h y (List.mem_cons_of_mem _ hy), List.length_cons, Nat.succ_mul, Nat.add_comm]
theorem flatten_get {α : Type} {k : Nat} : ∀ (l : List (List α)) (i j : Nat) (hi : i < l.length), j < k → (∀ x ∈ l, x.length = k) → l.flatten[i * k + j]? = (l[i])[j]?
 | [], _, _, hi, _, _ => by simp at hi
 | x :: l, 0, j, _, hj, h => by
  rw [List.flatten_cons, Nat.zero_mul, Nat.zero_add, List.getElem?_append_left (by rw [h x List.mem_cons_self]; exact hj)]
  rfl
 | x :: l, i + 1, j, hi, hj, h => by
  have hx := h x List.mem_cons_self
  rw [List.flatten_cons, List.getElem?_append_right (by rw [hx, Nat.succ_mul]; omega), hx]
  rw [show (i + 1) * k + j - k = i * k + j by rw [Nat.succ_mul]; omega]
  exact flatten_get l i j (by simpa using hi) hj fun y hy => h y (List.mem_cons_of_mem _ hy)
/-- A slice of flat elements. -/
theorem open_flats {H : Type} {enc : TypeId × Value → H} {P : Program} {W : World} {r : Reach} {base : Nat} {t e : TypeId} {v : Value} {d : DataW H} {p : List MemPlace} {ks : List (Option IntKind)} (n : Nat) (ht : P.underlying t = some (.slice e)) (hk : fk P n e = some ks) (hc : P.cellsOf e = ks.length) (h0 : 0 < ks.length) (hv : Value.okWide P W r base t v)
  (h : DataW.Trod enc P W 0 (fun _ => true) true t v d p) : ∃ A m c, ∃ l : List (List Value), v = .slice A m c ∧ m = l.length ∧ Li.Rd W A l.flatten ∧ ∀ x ∈ l, fit ks x := by
 obtain ⟨A, m, c, rfl⟩ := okWide_slice ht hv
 obtain ⟨fuel, hf⟩ := h
 rcases Go.Deep.open_slice ht hf with ⟨hcs, _⟩ | ⟨a, len, cap, M, n', D, Pl, hcs, _, hl, hm, hM, _, hall⟩
 ·simp [Value.cells] at hcs
  obtain ⟨rfl, rfl, rfl⟩ := hcs
  exact ⟨none, 0, 0, [], rfl, rfl, .inl rfl, by simp⟩
 ·simp [Value.cells] at hcs
  obtain ⟨rfl, rfl, rfl⟩ := hcs
  simp only [if_true] at hM
  obtain ⟨C, hC⟩ := Go.Deep.choose_lt (α := List Value) (p := fun i cs => W.cells? 0 (a.add (i * P.cellsOf e)) (P.cellsOf e) = some cs ∧ fit ks cs) (n := m) (fun i hi => by
   obtain ⟨cs, h1, h2⟩ := hall i (by omega)
   exact ⟨cs, h1, fit_of n hk h2⟩)
  refine ⟨some a, m, c, (List.range m).map C, rfl, by simp, ?_, ?_⟩
  ·by_cases hz : m = 0
   ·subst hz; exact .inl (by simp)
   ·obtain ⟨b, off, spot⟩ := a
    have hlen : ∀ x ∈ (List.range m).map C, x.length = ks.length := fun x hx => by
     obtain ⟨i, hi, rfl⟩ := List.mem_map.1 hx
     exact fit_len (hC i (List.mem_range.1 hi)).2
    have cell : ∀ i, i < m → ∀ j, j < ks.length → W.cell? (Addr.add ⟨b, off, spot⟩ (i * ks.length + j)) = (C i)[j]? := fun i hi j hj => by
     have h1 := (World.cells?_some (hC i hi).1).2.2 j (by rw [hc]; exact hj)
     rw [hc] at h1
     have e : (Addr.add ⟨b, off, spot⟩ (i * ks.length)).add j = Addr.add ⟨b, off, spot⟩ (i * ks.length + j) := by
      generalize i * ks.length = u
      by_cases hu : u = 0 <;> by_cases hv : j = 0 <;> simp [Addr.add, hu, hv, Nat.add_assoc]
     rwa [e] at h1
    have hspot : spot = none := by
     have h1 := cell 0 (by omega) 0 h0
     have h2 := fit_len (hC 0 (by omega)).2
     rw [List.getElem?_eq_getElem (by omega)] at h1
     simpa [Addr.add] using World.cell?_spot h1
    subst hspot
    refine .inr ⟨b, off, rfl, fun q hq => ?_⟩
    have hfl : ((List.range m).map C).flatten.length = m * ks.length := by
     have := flatten_len _ hlen
     simpa using this
    rw [hfl] at hq
    have hi : q / ks.length < m := Nat.div_lt_of_lt_mul (by rw [Nat.mul_comm]; exact hq)
    have hj : q % ks.length < ks.length := Nat.mod_lt _ h0
    have hq2 : q / ks.length * ks.length + q % ks.length = q := by rw [Nat.mul_comm]; exact Nat.div_add_mod _ _
    have h1 := cell _ hi _ hj
    rw [hq2, Addr.add_lit] at h1
    rw [h1]
    have h2 := flatten_get ((List.range m).map C) (q / ks.length) (q % ks.length) (by simpa using hi) hj hlen
    rw [hq2] at h2
    rw [h2]
    simp
  ·intro x hx
   obtain ⟨i, hi, rfl⟩ := List.mem_map.1 hx
   exact (hC i (List.mem_range.1 hi)).2
/-- One value of a flat struct or array type. -/
theorem open_flatv {H : Type} {enc : TypeId × Value → H} {P : Program} {W : World} {r : Reach} {base : Nat} {t : TypeId} {v : Value} {d : DataW H} {p : List MemPlace} {ks : List (Option IntKind)} (n : Nat) (ht : (P.underlying t).map TypeDesc.isRow = some true) (hk : fk P n t = some ks) (hv : Value.okWide P W r base t v)
  (h : DataW.Trod enc P W 0 (fun _ => true) true t v d p) : ∃ cs : List Value, v = .agg cs.toArray ∧ fit ks cs := by
 obtain ⟨fuel, hf⟩ := h
 have hfit := fit_of n hk hf
 obtain ⟨cs, rfl⟩ : ∃ cs, v = .agg cs := by
  unfold Value.okWide at hv
  split at hv
  ·obtain ⟨cs, rfl, _⟩ := hv; exact ⟨_, rfl⟩
  ·obtain ⟨cs, rfl, _⟩ := hv; exact ⟨_, rfl⟩
  ·rename_i h1 h2
   cases hu : P.underlying t with
   | none => simp [hu] at ht
   | some d =>
    cases d <;> simp [hu, TypeDesc.isRow] at ht
    ·exact absurd hu (h2 _ _)
    ·exact absurd hu (h1 _)
 exact ⟨cs.toList, by simp, by simpa [Value.cells] using hfit⟩
end Lift
end Go.Proofs.YtakdoijemopejaaGreat
/- append(s, make([]T, n)...): n zeros behind a slice of one's own. No condition but Go's own limits. -/
namespace Go.Proofs.YtakdoijemopejaaGreat
open Go Go.RowKit
namespace Se
open Li (Blk Rd Fr)
section
variable {P : Program} {w0 w : World} {X : List Nat} {L : List At} {o : Oper} {a : Act} {G : Value → World → Prop}
theorem zeroCells_one {z : Value} (hz : z.cells = #[z]) (m : Nat) : Builtin.zeroCells z.cells m = (List.replicate m z).toArray := by
 unfold Builtin.zeroCells
 rw [hz]
 apply Array.ext
 ·simp
 ·intro i h1 h2
  simp [Nat.mod_one]
theorem run_append_zero {t u ty e : TypeId} {z : Value} (ht : P.underlying t = some (.slice e)) (hu : P.underlying u = some (.int .i64)) (hinfo : (P.info? e).map (fun i => (i.zero, i.size, i.bytes)) = some (some z, 1, 1)) (hz : z.cells = #[z]) (h1 : z.oneCell' = true)
  {r : Option Nat} {A : Option Addr} {c n m : Nat} {xs : List Value} (hO : Ow w 1 r A n c xs) (hle : n + m ≤ 140737488355328) :
  ∃ A' c' r' w', (Builtin.append_ #[t, u] ty #[.slice A n c, .int .i64 m]).run P w = .ok (.slice A' (n + m) c') w' ∧ Ow w' 1 r' A' (n + m) c' (xs ++ List.replicate m z) ∧ w.grownBy w' r ∧ (r' = r ∨ r' = some w.heap.size) := by
 cases hi : P.info? e with
 | none => simp [hi] at hinfo
 | some i =>
  simp only [hi, Option.map_some, Option.some.injEq, Prod.mk.injEq] at hinfo
  obtain ⟨hz1, hs1, hby⟩ := hinfo
  obtain ⟨hxl, hnc, hcase⟩ := hO
  have hmax : (maxLen : Nat) = 9223372036854775807 := rfl
  have hwrap : IntKind.i64.wrap (m : Int) = m := IntWalk.i64_in _ (by omega)
  have hneg : ¬ ((m : Int) < 0) := by omega
  have h48 : ¬ ((281474976710656 : Int) < (m : Int)) := by omega
  by_cases hroom : n + m ≤ c
  ·rcases hcase with ⟨rfl, rfl⟩ | ⟨g, off, l, t', rfl, rfl, hb, hl, hmx, hx⟩
   ·have : n = 0 := by omega
    have : m = 0 := by omega
    subst n m
    have : xs = [] := by simpa using hxl
    subst this
    refine ⟨A, 0, none, w, ?_, ⟨by simp, Nat.le_refl _, .inl ⟨rfl, rfl⟩⟩, ⟨rfl, rfl, rfl, Nat.le_refl _, fun _ _ _ => rfl⟩, .inl rfl⟩
    cases A <;> simp [Builtin.append_, run_underlying ht, run_underlying hu, sizeOf, typeInfo, hi, hs1, hby, asInt, asIntOf, show IntKind.i64.wrap 0 = 0 from rfl, storeCells]
   ·have hst := run_storeCells_cells (P := P) g (off + n) (List.replicate m z) 0 w (by intro j hj; rw [hb.cell]; simp at hj ⊢; omega) (by intro j hj; exact hb.frozen _) (by intro v hv; rw [List.eq_of_mem_replicate hv]; exact h1)
    simp only [Nat.add_zero] at hst
    refine ⟨some ⟨g, off, none⟩, c, some g, w.setCells g (off + n) (List.replicate m z), ?_, ?_, ?_, .inl rfl⟩
    ·rcases Nat.eq_zero_or_pos m with rfl | hm
     ·simp [Builtin.append_, run_underlying ht, run_underlying hu, sizeOf, typeInfo, hi, hs1, hby, asInt, asIntOf, show IntKind.i64.wrap 0 = 0 from rfl, storeCells, show n ≤ c by omega, World.setCells]
     ·have hm0 : ¬ m = 0 := by omega
      have hzc := zeroCells_one hz m
      simp [Builtin.append_, run_underlying ht, run_underlying hu, sizeOf, typeInfo, zeroValue, hi, hs1, hz1, hby, asInt, asIntOf, hwrap, hneg, h48, hm0, hroom, Addr.add_lit, hst, hzc]
    ·refine ⟨by simp [hxl], hroom, .inr ⟨g, off, _, t', rfl, rfl, hb.setCells _ (off + n) (by simp; omega), ?_, hmx, ?_⟩⟩
     ·simp; omega
     ·have e1 : (l.take (off + n) ++ List.replicate m z ++ l.drop (off + n + (List.replicate m z).length)).drop off = xs ++ List.replicate m z ++ l.drop (off + n + m) := by
       rw [List.append_assoc, List.drop_append_of_le_length (by rw [List.length_take]; omega), List.drop_take, Nat.add_sub_cancel_left, ← hx]
       simp
      rw [e1]
      have : (n + m) * 1 = (xs ++ List.replicate m z).length := by simp [hxl]
      rw [this]
      exact List.take_left
    ·exact ⟨(Li.below_setCells _ _ w g (Below.refl 0 w) (Nat.zero_le _)).os, (Li.below_setCells _ _ w g (Below.refl 0 w) (Nat.zero_le _)).tape, (Li.below_setCells _ _ w g (Below.refl 0 w) (Nat.zero_le _)).output, by rw [Li.size_setCells]; exact Nat.le_refl _, fun k _ hk => Li.heap_setCells_other _ _ w g k (fun h => hk (by rw [h]))⟩
  ·have hge := grownCap_ge w (n + m) c e
   have hcm := grownCap_le_maxLen w (n + m) c e (by omega)
   have hm0 : ¬ m = 0 := by omega
   have hfit := growslice_fits (need := n + m) (old := c) (bytes := 1) (by omega) (by omega)
   have h63' : ¬ (9223372036854775807 < ((n : Int) + (m : Int))) := by omega
   have h48' : ¬ (281474976710656 < Builtin.nextslicecap (n + m) c) := by simpa using hfit
   have hold : (Builtin.firstCells 1 n (.slice A n c)).run P w.drew = .ok xs.toArray w.drew := by
    rcases hcase with ⟨rfl, rfl⟩ | ⟨g, off, l, t', rfl, rfl, hb, hl, hmx, hx⟩
    ·have : n = 0 := by omega
     subst n
     have : xs = [] := by simpa using hxl
     subst this
     cases A with
     | none => exact run_firstCells_none w.drew 1 0 0 0
     | some b => exact run_firstCells_some w.drew 1 0 b 0 0 [] (by simp) (by simp)
    ·refine run_firstCells_some w.drew 1 n _ n c xs hxl fun j v hv => ?_
     have hj := (List.getElem?_eq_some_iff.1 hv).1
     rw [Addr.add_lit]
     show w.cell? _ = _
     rw [hb.cell]
     have : xs[j]? = l[off + j]? := by
      rw [← hx, List.getElem?_take_of_lt (by omega), List.getElem?_drop]
     rw [← this, hv]
   have hzc := zeroCells_one hz
   refine ⟨some ⟨w.heap.size, 0, none⟩, grownCap w (n + m) c e, some w.heap.size, w.drew.alloc (.cells (xs.toArray ++ (List.replicate m z).toArray ++ (List.replicate (grownCap w (n + m) c e - (n + m)) z).toArray) e), ?_, ?_, ⟨rfl, rfl, rfl, by simp, fun k hk _ => Below.heap_alloc w.drew _ k hk⟩, .inr rfl⟩
   ·simp [Builtin.append_, run_underlying ht, run_underlying hu, sizeOf, typeInfo, zeroValue, hi, hs1, hz1, hby, asInt, asIntOf, hwrap, hneg, h48, hm0, hroom, h63', h48', Question.forced, hold, hzc, newRow, grownCap]
   ·refine ⟨by simp [hxl], hge, .inr ⟨w.heap.size, 0, (xs ++ List.replicate m z ++ List.replicate (grownCap w (n + m) c e - (n + m)) z), e, rfl, rfl, by have h := Blk.new w.drew (xs ++ List.replicate m z ++ List.replicate (grownCap w (n + m) c e - (n + m)) z) e; rw [show (xs ++ List.replicate m z ++ List.replicate (grownCap w (n + m) c e - (n + m)) z).toArray = xs.toArray ++ (List.replicate m z).toArray ++ (List.replicate (grownCap w (n + m) c e - (n + m)) z).toArray by simp only [List.append_toArray]] at h; exact h, ?_, hcm, ?_⟩⟩
    ·simp [hxl]; omega
    ·have : (n + m) * 1 = (xs ++ List.replicate m z).length := by simp [hxl]
     rw [List.drop_zero, this]
     exact List.take_left
/-- n zeros behind a slice of one's own. -/
theorem apn (k : Nat) (hs : St w0 X L w) {x y : Operand} {t u e : TypeId} (ho : o.op = .call { callee := .builtin .append, args := #[x, y], argTypes := #[t, u] })
  {r : Option Nat} {A : Option Addr} {n c m : Nat} (hx : a.eval x = .slice A n c) {q : Int} (hy : a.eval y = .int .i64 q) (hq : q = (m : Int)) {xs : List Value} (hk : L[k]? = some (.own 1 r A n c xs))
  {z : Value} (ht : P.underlying t = some (.slice e)) (hu : P.underlying u = some (.int .i64)) (hinfo : (P.info? e).map (fun i => (i.zero, i.size, i.bytes)) = some (some z, 1, 1)) (hz : z.cells = #[z]) (h1 : z.oneCell' = true) (hle : n + m ≤ 140737488355328)
  (h : ∀ (w' : World) (r' : Option Nat) (A' : Option Addr) (c' : Nat), St w0 X (L.set k (.own 1 r' A' (n + m) c' (xs ++ List.replicate m z))) w' → G (.slice A' (n + m) c') w') : Hv.Gives P o a w G := by
 subst hq
 obtain ⟨A', c', r', w', hr, h2, h3, h4⟩ := run_append_zero (P := P) (ty := o.type) (m := m) ht hu hinfo hz h1 (hs.hold _ (List.mem_of_getElem? hk)) hle
 unfold Hv.Gives execOp
 simp only [ho, resolve, invoke, builtin, Sem.run_bind, Sem.run_pure, Result.andThen_ok, List.map_toArray, List.map_cons, List.map_nil, hx, hy, hr]
 exact h w' r' A' c' (St.appendAt k hk hs h2 h3 h4)
/-- Fewer elements of a slice of one's own. -/
theorem St.own_take {s : Nat} {r : Option Nat} {A : Option Addr} {n c : Nat} {xs : List Value} (hs : St w0 X (.own s r A n c xs :: L) w) (m : Nat) (hm : m ≤ n) : St w0 X (.own s r A m c (xs.take (m * s)) :: L) w := by
 refine St.turn (P := [.own s r A n c xs]) (P' := [.own s r A m c (xs.take (m * s))]) hs (Fr.refl _ w) ?_ (by simp [At.noRd]) (by cases r <;> simp [ownedL, At.owned]) (by simp [ownedL, At.owned]; intro b h; exact .inl h)
 have ho : Ow w s r A n c xs := hs.hold _ List.mem_cons_self
 obtain ⟨h1, h2, h3⟩ := ho
 have hle : m * s ≤ n * s := Nat.mul_le_mul_right _ hm
 simp only [List.mem_singleton, forall_eq, At.holds]
 refine ⟨by simp; omega, by omega, ?_⟩
 rcases h3 with ⟨rfl, rfl⟩ | ⟨g, off, l, t, hA, hr, hb, h4, h5, h6⟩
 ·exact .inl ⟨rfl, rfl⟩
 ·exact .inr ⟨g, off, l, t, hA, hr, hb, h4, h5, by rw [← h6, List.take_take, Nat.min_eq_left hle]⟩
end
end Se
end Go.Proofs.YtakdoijemopejaaGreat
/- Operations that may be struck, walked once: what a guard reads is a truth value that need not be known. No condition. -/
namespace Go.Proofs.YtakdoijemopejaaGreat
namespace Gd
open Go Go.RowKit Hv Ch
/-- What a guard reads in a value. -/
def wb (v : Value) (t : Bool) : Bool := match v with
 | .bool b => b == t
 | _ => false
/-- A value, if its operation is wanted. -/
def mv (b : Bool) (v : Value) : Value := match b with
 | true => v
 | false => undef
def pk (b : Bool) (x y : Value) : Value := match b with
 | true => x
 | false => y
theorem mv_true (v : Value) : mv true v = v := rfl
theorem mv_of {b : Bool} {v : Value} (h : b = true) : mv b v = v := by subst h; rfl
theorem mv_false (v : Value) : mv false v = undef := rfl
theorem pk_true (x y : Value) : pk true x y = x := rfl
theorem pk_false (x y : Value) : pk false x y = y := rfl
theorem wb_true (b : Bool) : wb (.bool b) true = b := by cases b <;> rfl
theorem wb_false (b : Bool) : wb (.bool b) false = !b := by cases b <;> rfl
theorem wb_mv (b : Bool) (v : Value) (t : Bool) : wb (mv b v) t = (b && wb v t) := by cases b <;> rfl
theorem wb_undef (t : Bool) : wb undef t = false := rfl
theorem pk_or (b c : Bool) : pk b (.bool true) (mv (!b) (.bool c)) = .bool (b || c) := by cases b <;> rfl
theorem pk_and (b c : Bool) : pk b (mv b (.bool c)) (.bool false) = .bool (b && c) := by cases b <;> rfl
theorem mv_bool (b c : Bool) : mv b (.bool c) = pk b (.bool c) undef := by cases b <;> rfl
section
variable {P : Program} {ops : Array Oper} {S : World → Prop} {N : Nat → Bool} {F : Act → World → Prop} {i : Nat} {rest : List Nat} {a : Act} {w : World} {o : Oper} {v : Value} {B : Bool}
theorem want_at {j d : Nat} {t : Bool} {u : Value} (hg : o.guard = some (j, t)) (hd : (ops[j]?).bind (·.dst) = some d) (hv : a.tmps[d]? = some u) : Region.wanted o (yielded ops a.tmps) = wb u t := by
 unfold Region.wanted yielded
 rw [hg]
 simp only [hd, Option.bind_some, hv]
 cases u <;> simp [wb]
theorem want_t {j d : Nat} {b : Bool} (hg : o.guard = some (j, true)) (hd : (ops[j]?).bind (·.dst) = some d) (hv : a.tmps[d]? = some (.bool b)) : Region.wanted o (yielded ops a.tmps) = b := by rw [want_at hg hd hv, wb_true]
theorem want_f {j d : Nat} {b : Bool} (hg : o.guard = some (j, false)) (hd : (ops[j]?).bind (·.dst) = some d) (hv : a.tmps[d]? = some (.bool b)) : Region.wanted o (yielded ops a.tmps) = !b := by rw [want_at hg hd hv, wb_false]
theorem want_mt {j d : Nat} {b : Bool} (hg : o.guard = some (j, true)) (hd : (ops[j]?).bind (·.dst) = some d) (hv : a.tmps[d]? = some (mv B (.bool b))) : Region.wanted o (yielded ops a.tmps) = (B && b) := by rw [want_at hg hd hv, wb_mv, wb_true]
theorem want_mf {j d : Nat} {b : Bool} (hg : o.guard = some (j, false)) (hd : (ops[j]?).bind (·.dst) = some d) (hv : a.tmps[d]? = some (mv B (.bool b))) : Region.wanted o (yielded ops a.tmps) = (B && !b) := by rw [want_at hg hd hv, wb_mv, wb_false]
variable {K : Act → World → Prop} {d : Option Tmp} {op : Op} {ty : TypeId} {ps : String} {es : Array Edge} {gj : Nat × Bool} {c x y : Operand}
theorem look (ho : ops.toList[i]? = some o) (h : CStep P ops S N i o (CW P ops S N F rest) a w) : CW P ops S N F (i :: rest) a w := ⟨o, by simpa using ho, h⟩
/-! which operation it is -/
theorem isPick0 (h : CStep P ops S N i ⟨d, .pick c x y, ty, ps, es, none⟩ K a w) : CStep P ops S N i ⟨d, .pick c x y, ty, ps, es, none⟩ K a w := h
theorem isPick1 (h : CStep P ops S N i ⟨d, .pick c x y, ty, ps, es, some gj⟩ K a w) : CStep P ops S N i ⟨d, .pick c x y, ty, ps, es, some gj⟩ K a w := h
theorem isLoad0 {t : TypeId} (h : CStep P ops S N i ⟨d, .load t x, ty, ps, es, none⟩ K a w) : CStep P ops S N i ⟨d, .load t x, ty, ps, es, none⟩ K a w := h
theorem isLoad1 {t : TypeId} (h : CStep P ops S N i ⟨d, .load t x, ty, ps, es, some gj⟩ K a w) : CStep P ops S N i ⟨d, .load t x, ty, ps, es, some gj⟩ K a w := h
theorem isBin0 {b : BinOp} {t u : TypeId} (h : CStep P ops S N i ⟨d, .binOp b t x y u, ty, ps, es, none⟩ K a w) : CStep P ops S N i ⟨d, .binOp b t x y u, ty, ps, es, none⟩ K a w := h
theorem isBin1 {b : BinOp} {t u : TypeId} (h : CStep P ops S N i ⟨d, .binOp b t x y u, ty, ps, es, some gj⟩ K a w) : CStep P ops S N i ⟨d, .binOp b t x y u, ty, ps, es, some gj⟩ K a w := h
theorem isUn0 {b : UnOp} {t : TypeId} (h : CStep P ops S N i ⟨d, .unOp b t x, ty, ps, es, none⟩ K a w) : CStep P ops S N i ⟨d, .unOp b t x, ty, ps, es, none⟩ K a w := h
theorem isUn1 {b : UnOp} {t : TypeId} (h : CStep P ops S N i ⟨d, .unOp b t x, ty, ps, es, some gj⟩ K a w) : CStep P ops S N i ⟨d, .unOp b t x, ty, ps, es, some gj⟩ K a w := h
theorem is0 (h : CStep P ops S N i ⟨d, op, ty, ps, es, none⟩ K a w) : CStep P ops S N i ⟨d, op, ty, ps, es, none⟩ K a w := h
theorem is1 (h : CStep P ops S N i ⟨d, op, ty, ps, es, some gj⟩ K a w) : CStep P ops S N i ⟨d, op, ty, ps, es, some gj⟩ K a w := h
/-- A quiet operation. -/
theorem qp (hN : N i = false) (hg : o.guard = none) (hv : ∀ w, S w → (execOp a.eval o).run P w = .ok (.value v) w) (h : K (a.put o.dst v) w) : CStep P ops S N i o K a w := by
 unfold CStep; simp only [hN]
 exact ⟨v, .inl ⟨by simp [Region.wanted, hg], hv⟩, h⟩
/-- A quiet operation that may be struck. -/
theorem gp (hN : N i = false) (hw : Region.wanted o (yielded ops a.tmps) = B)
  (hv : B = true → ∀ w, S w → (execOp a.eval o).run P w = .ok (.value v) w) (h : K (a.put o.dst (mv B v)) w) : CStep P ops S N i o K a w := by
 unfold CStep; simp only [hN]
 cases B with
 | true => exact ⟨v, .inl ⟨hw, hv rfl⟩, h⟩
 | false => exact ⟨undef, .inr ⟨hw, rfl⟩, h⟩
/-- Its value is a truth value: it gets a name. -/
theorem gb {e : Bool} (hN : N i = false) (hw : Region.wanted o (yielded ops a.tmps) = B)
  (hv : B = true → ∀ w, S w → (execOp a.eval o).run P w = .ok (.value v) w) (he : v = .bool e) (h : ∀ c, Hid (c = e) → K (a.put o.dst (mv B (.bool c))) w) : CStep P ops S N i o K a w :=
 gp hN hw (fun hb w hS => by rw [hv hb w hS, he]) (h e (Lib.hid rfl))
theorem qb {e : Bool} (hN : N i = false) (hg : o.guard = none)
  (hv : ∀ w, S w → (execOp a.eval o).run P w = .ok (.value v) w) (he : v = .bool e) (h : ∀ c, Hid (c = e) → K (a.put o.dst (.bool c)) w) : CStep P ops S N i o K a w :=
 qp hN hg (fun w hS => by rw [hv w hS, he]) (h e (Lib.hid rfl))
theorem run_pick {b : Bool} (hop : o.op = .pick c x y) (hc : a.eval c = .bool b) : (execOp a.eval o).run P w = .ok (.value (pk b (a.eval x) (a.eval y))) w := by
 unfold execOp
 simp only [hop, hc]
 cases b <;> rfl
/-- pick -/
theorem qpick {b e : Bool} (hop : o.op = .pick c x y) (hN : N i = false) (hg : o.guard = none)
  (hc : a.eval c = .bool b) (hv : pk b (a.eval x) (a.eval y) = v) (he : v = .bool e) (h : ∀ c, Hid (c = e) → K (a.put o.dst (.bool c)) w) : CStep P ops S N i o K a w :=
 qb hN hg (fun w _ => by rw [run_pick hop hc, hv]) he h
theorem gpick {b e : Bool} (hop : o.op = .pick c x y) (hN : N i = false) (hw : Region.wanted o (yielded ops a.tmps) = B)
  (hv : B = true → a.eval c = .bool b ∧ pk b (a.eval x) (a.eval y) = v) (he : v = .bool e) (h : ∀ c, Hid (c = e) → K (a.put o.dst (mv B (.bool c))) w) : CStep P ops S N i o K a w :=
 gb hN hw (fun hb w _ => by rw [run_pick hop (hv hb).1, (hv hb).2]) he h
/-- A noisy operation that may be struck: the world is of the kind T before and behind. -/
theorem gn {T : World → Prop} (ho : ops.toList[i]? = some o) (hN : N i = true) (hw : Region.wanted o (yielded ops a.tmps) = B) (h0 : T w)
  (h1 : B = true → Gives P o a w (fun v' w' => v' = v ∧ T w')) (h : ∀ w', T w' → S w' ∧ CW P ops S N F rest (a.put o.dst (mv B v)) w') : CW P ops S N F (i :: rest) a w :=
 look ho (by
  unfold CStep; simp only [hN]
  cases B with
  | true => exact .inr ⟨hw, (h1 rfl).mono fun v' w' ⟨e, h2⟩ => by subst e; exact h _ h2⟩
  | false => exact .inl ⟨hw, (h _ h0).2⟩)
/-- A region that does not draw its order, as a chain. -/
theorem plainL {Q : Exit → Act → World → Prop} {l : List Oper} : ∀ (rest : List Nat) (a : Act) (w : World), S w → CW P l.toArray S N (Q .normal) rest a w → wpOps P l.toArray Q rest a w
 | [], _, _, _, h => h
 | i :: rest, a, w, hS, ⟨o, ho, h⟩ => by
  unfold CStep at h
  cases hn : N i with
  | false =>
   simp only [hn] at h
   obtain ⟨v, hy, h⟩ := h
   exact hy.wpOp ho hS (plainL rest _ _ hS h)
  | true =>
   simp only [hn] at h
   rcases h with ⟨hw, h⟩ | ⟨hw, hg⟩
   ·show wpOp P l.toArray Q i (wpOps P l.toArray Q rest) a w
    unfold wpOp
    simp only [ho, hw, Bool.false_eq_true, if_false]
    exact plainL rest _ _ hS h
   ·show wpOp P l.toArray Q i (wpOps P l.toArray Q rest) a w
    unfold wpOp
    simp only [ho, hw, if_true]
    exact .inl (hg.wp fun v w' ⟨hS', h⟩ => plainL rest _ _ hS' h)
theorem plain {id : Nat} {Q : Exit → Act → World → Prop} {l : List Oper} (n : Nat) (S : World → Prop) (N : Nat → Bool) (hn : l.length = n) (hS : S w) (h : CW P l.toArray S N (Q .normal) (List.range n) a w) : (Code.region id l.toArray false).wp P Q a w := by
 refine wp_region ?_
 rw [List.size_toArray, hn]
 exact plainL _ _ _ hS h
end
end Gd
end Go.Proofs.YtakdoijemopejaaGreat


/- Frames with some blocks let out; parts of slices. No condition but that the bounds hold. -/
import Derived.Test.YtgpbmohfgjmpkaaApp
import Derived.Test.YtgpbmohfgjmpkaaMid
namespace Go.Proofs.Ytgpbmohfgjmpkaa
open Go Go.RowKit
namespace Li
/-- What lay in w is as it was but for the blocks of X. -/
structure Fr (X : Nat → Prop) (w w' : World) : Prop where
  os : w'.os = w.os
  tape : w'.tape = w.tape
  output : w'.output = w.output
  size : w.heap.size ≤ w'.heap.size
  block : ∀ b, b < w.heap.size → ¬ X b → w'.heap[b]? = w.heap[b]?
theorem Fr.refl (X : Nat → Prop) (w : World) : Fr X w w := ⟨rfl, rfl, rfl, Nat.le_refl _, fun _ _ _ => rfl⟩
theorem Fr.trans {X Y : Nat → Prop} {w w1 w2 : World} (h : Fr X w w1) (k : Fr Y w1 w2) (hY : ∀ b, b < w.heap.size → Y b → X b) : Fr X w w2 :=
  ⟨k.os.trans h.os, k.tape.trans h.tape, k.output.trans h.output, Nat.le_trans h.size k.size, fun b hb hx => (k.block b (Nat.lt_of_lt_of_le hb h.size) (fun hy => hx (hY b hb hy))).trans (h.block b hb hx)⟩
theorem Fr.mono {X Y : Nat → Prop} {w w1 : World} (h : Fr X w w1) (hY : ∀ b, b < w.heap.size → X b → Y b) : Fr Y w w1 := ⟨h.os, h.tape, h.output, h.size, fun b hb hy => h.block b hb (fun hx => hy (hY b hb hx))⟩
theorem Fr.grown {w w' : World} {r : Option Nat} {X : Nat → Prop} (h : w.grownBy w' r) (hr : ∀ g, r = some g → X g) : Fr X w w' :=
  ⟨h.os, h.tape, h.output, h.size, fun b hb hx => h.block b hb (fun e => hx (hr b e.symm))⟩
theorem Fr.ext {X : Nat → Prop} {w w' : World} (h : Below w.heap.size w w') : Fr X w w' := ⟨h.os, h.tape, h.output, h.size, fun b hb _ => h.block b hb⟩
theorem Fr.setCells {X : Nat → Prop} {w w' : World} {g : Nat} (h : Fr X w w') (hX : X g) (o : Nat) (vs : List Value) : Fr X w (w'.setCells g o vs) :=
  ⟨(below_setCells vs o w' g (Below.refl 0 w') (Nat.zero_le _)).os.trans h.os, (below_setCells vs o w' g (Below.refl 0 w') (Nat.zero_le _)).tape.trans h.tape, (below_setCells vs o w' g (Below.refl 0 w') (Nat.zero_le _)).output.trans h.output,
    by rw [size_setCells]; exact h.size, fun k hk hne => (heap_setCells_other vs o w' g k (fun e => hne (by rw [e]; exact hX))).trans (h.block k hk hne)⟩
theorem Fr.setCell {X : Nat → Prop} {w w' : World} {g : Nat} (h : Fr X w w') (hX : X g) (o : Nat) (v : Value) : Fr X w (w'.setCell ⟨g, o, none⟩ v) := h.setCells hX o [v]
theorem Fr.below {X : Nat → Prop} {w w' : World} {B : Nat} (h : Fr X w w') (hB : B ≤ w.heap.size) (hX : ∀ b, X b → B ≤ b) : Below B w w' :=
  ⟨h.os, h.tape, h.output, h.size, fun b hb => h.block b (by omega) (fun hx => by have := hX b hx; omega)⟩
theorem Blk.fr {X : Nat → Prop} {w w' : World} {g : Nat} {l : List Value} {t : TypeId} (h : Blk w g l t) (k : Fr X w w') (hg : ¬ X g) : Blk w' g l t := h.of_block (k.block g h.lt hg)
theorem Os.fr {X : Nat → Prop} {w w' : World} {t : TypeId} {r : Option Nat} {A : Option Addr} {c : Nat} {xs : List Value} (h : Os w t r A c xs) (k : Fr X w w') (hr : ∀ g, r = some g → ¬ X g) : Os w' t r A c xs :=
  h.of_block fun g hg => k.block g (by subst hg; exact h.lt) (hr g hg)
theorem Rd.fr {X : Nat → Prop} {w w' : World} {A : Option Addr} {xs : List Value} (h : Rd w A xs) (k : Fr X w w') (hA : ∀ a, A = some a → xs ≠ [] → ¬ X a.block) : Rd w' A xs := by
  by_cases hx : xs = []
  · exact .inl hx
  obtain ⟨g, off, rfl, hl, hc⟩ := h.cells hx
  exact .inr ⟨g, off, rfl, fun i hi => (World.cell?_of_block (a := (⟨g, off + i, none⟩ : Addr)) (k.block g hl (hA ⟨g, off, none⟩ rfl hx))).trans (hc i hi)⟩
theorem add_zero (a : Addr) : a.add 0 = a := by unfold Addr.add; split <;> simp_all
section
variable {P : Program} {t e : TypeId}
theorem cut_hi (ht : P.underlying t = some (.slice e)) (hi : (P.info? e).map (·.size) = some 1) (A : Option Addr) (n c k : Nat) (hk : k ≤ c) (w : World) :
    (Instr.sliceAt t (.slice A n c) none (some (.int .i64 (k : Int))) none).run P w = .ok (.slice A k c) w := by
  have e2 : P.elem t = e := by simp [Program.elem, ht]
  have ht2 : P.underlying t = some (.slice (P.elem t)) := by rw [e2]; exact ht
  rw [run_sliceAt_slice w t _ _ _ _ ht2, run_slice_h w t A n c ht2 .i64 (k : Int) (by omega) (by omega), e2, run_size hi]
  have em : A.map (fun x => x.add (0 * 1)) = A := by cases A <;> simp [add_zero]
  simp only [Result.andThen, sliced, em, ite_self, Int.toNat_natCast, Nat.sub_zero]
theorem cut_lo (ht : P.underlying t = some (.slice e)) (hi : (P.info? e).map (·.size) = some 1) (A : Option Addr) (n c k : Nat) (hk : k ≤ n) (w : World) :
    (Instr.sliceAt t (.slice A n c) (some (.int .i64 (k : Int))) none none).run P w = .ok (.slice (if c = k then A else A.map (·.add k)) (n - k) (c - k)) w := by
  have e2 : P.elem t = e := by simp [Program.elem, ht]
  have ht2 : P.underlying t = some (.slice (P.elem t)) := by rw [e2]; exact ht
  rw [run_sliceAt_slice w t _ _ _ _ ht2, run_slice_l w t A n c ht2 .i64 (k : Int) (by omega) (by omega), e2, run_size hi]
  simp only [Result.andThen, sliced, Nat.mul_one, Int.toNat_natCast]
theorem cut_mid (ht : P.underlying t = some (.slice e)) (hi : (P.info? e).map (·.size) = some 1) (g off n c l h : Nat) (hlh : l < h) (hc : h ≤ c) {L H : Int} (eL : L = (l : Int)) (eH : H = (h : Int)) (w : World) :
    (Instr.sliceAt t (.slice (some ⟨g, off, none⟩) n c) (some (.int .i64 L)) (some (.int .i64 H)) none).run P w = .ok (.slice (some ⟨g, off + l, none⟩) (h - l) (c - l)) w := by
  subst eL eH
  have e2 : P.elem t = e := by simp [Program.elem, ht]
  have ht2 : P.underlying t = some (.slice (P.elem t)) := by rw [e2]; exact ht
  rw [run_sliceAt_slice w t _ _ _ _ ht2, run_slice_lh w t _ n c ht2 .i64 .i64 (l : Int) (h : Int) (by omega) (by omega) (by omega), e2, run_size hi]
  simp only [Result.andThen, sliced, Nat.mul_one, Int.toNat_natCast, Option.map_some, Addr.add_lit, if_neg (show ¬ c = l by omega)]
end
end Li
end Go.Proofs.Ytgpbmohfgjmpkaa

/- Parts of a block that is known whole, loaded and stored. No condition but that the block is known. -/
import Derived.Test.YtgpbmohfgjmpkaaHvBlk
import Derived.Deep.MidRow
namespace Go.Proofs.Ytgpbmohfgjmpkaa
open Go Go.RowKit
namespace Li
section
variable {P : Program}
theorem Blk.range {w : World} {g : Nat} {t : TypeId} {pre cs post : List Value} (h : Blk w g (pre ++ (cs ++ post)) t) {o : Nat} (ho : o = pre.length) : w.rangeAt g o cs := by
  subst ho
  intro j v hv
  rw [h.cell, List.getElem?_append_right (Nat.le_add_right _ _), Nat.add_sub_cancel_left, List.getElem?_append_left (List.getElem?_eq_some_iff.1 hv).1]
  exact hv
theorem Blk.there {w : World} {g : Nat} {t : TypeId} {l : List Value} (h : Blk w g l t) {o n : Nat} (ho : o + n ≤ l.length) : w.there g o n := fun j hj =>
  ⟨by rw [h.cell]; simp [show o + j < l.length by omega], h.frozen _⟩
theorem Blk.setPart {w : World} {g : Nat} {t : TypeId} {pre cs post vs : List Value} (h : Blk w g (pre ++ (cs ++ post)) t) {o : Nat} (ho : o = pre.length) (hl : vs.length = cs.length) : Blk (w.setCells g o vs) g (pre ++ (vs ++ post)) t := by
  subst ho
  have := h.setCells vs pre.length (by simp; omega)
  rw [List.take_left, hl, ← List.length_append, ← List.append_assoc, List.drop_left, List.append_assoc] at this
  exact this
theorem wpList_load_part {ops : Array Oper} {rest : List Oper} {o : Oper} {a : Act} {w : World} {Q : Exit → Act → World → Prop} (hgd : o.guard = none) (ty : TypeId) (x : Operand) (ho : o.op = .load ty x)
    (g off : Nat) (hx : a.eval x = .pointer (some ⟨g, off, none⟩)) {t : TypeId} {pre cs post : List Value} {d : TypeDesc} (hg : Blk w g (pre ++ (cs ++ post)) t) (hoff : off = pre.length)
    (hu : P.underlying ty = some d) (hd : d.isRow = true) (hi : (P.info? ty).map (·.size) = some cs.length)
    (h : wpList P ops Q rest (a.put o.dst (.agg cs.toArray)) w) : wpList P ops Q (o :: rest) a w :=
  wpList_load_mid hgd ty x ho g off hx cs d (hg.range hoff) hu hd hi h
theorem wpList_store_part {ops : Array Oper} {rest : List Oper} {o : Oper} {a : Act} {w : World} {Q : Exit → Act → World → Prop} (hgd : o.guard = none) (ty : TypeId) (x y : Operand) (ho : o.op = .store ty x y)
    (g off : Nat) {vs : List Value} (hx : a.eval x = .pointer (some ⟨g, off, none⟩)) (hy : a.eval y = .agg vs.toArray) {t : TypeId} {l : List Value} (hg : Blk w g l t) (hl : off + vs.length ≤ l.length)
    (hi : (P.info? ty).map (·.size) = some vs.length) (h1 : ∀ v ∈ vs, v.oneCell' = true)
    (h : wpList P ops Q rest (a.put o.dst undef) (w.setCells g off vs)) : wpList P ops Q (o :: rest) a w :=
  wpList_store_mid hgd ty x y ho g off vs.toArray hx hy (hg.there (by simpa using hl)) (by simpa using hi) (all_oneCell_toArray h1) h
end
theorem grown_setCells {w w' : World} {g : Nat} (h : w.grownBy w' (some g)) (o : Nat) (vs : List Value) : w.grownBy (w'.setCells g o vs) (some g) :=
  ⟨(below_setCells vs o w' g (Below.refl 0 w') (Nat.zero_le _)).os.trans h.os, (below_setCells vs o w' g (Below.refl 0 w') (Nat.zero_le _)).tape.trans h.tape, (below_setCells vs o w' g (Below.refl 0 w') (Nat.zero_le _)).output.trans h.output,
    by rw [size_setCells]; exact h.size, fun k hk hne => (heap_setCells_other vs o w' g k (fun e => hne (by rw [e]))).trans (h.block k hk hne)⟩
theorem grown_refl (w : World) (r : Option Nat) : w.grownBy w r := ⟨rfl, rfl, rfl, Nat.le_refl _, fun _ _ _ => rfl⟩
theorem grown_ext {w w1 w2 : World} {r : Option Nat} (h : w.grownBy w1 r) (k : Below w1.heap.size w1 w2) : w.grownBy w2 r :=
  ⟨k.os.trans h.os, k.tape.trans h.tape, k.output.trans h.output, Nat.le_trans h.size k.size, fun b hb hne => (k.block b (Nat.lt_of_lt_of_le hb h.size)).trans (h.block b hb hne)⟩
theorem grown_setCell {w w' : World} {g : Nat} (h : w.grownBy w' (some g)) (o : Nat) (v : Value) : w.grownBy (w'.setCell ⟨g, o, none⟩ v) (some g) :=
  grown_setCells h o [v]
end Li
namespace Hv
section
variable {P : Program}
theorem exec_load_part {o : Oper} {ρ : Operand → Value} {w : World} {ty : TypeId} {x : Operand} (ho : o.op = .load ty x) {g off : Nat} (hx : ρ x = .pointer (some ⟨g, off, none⟩)) {cs : List Value} {d : TypeDesc} (hg : w.rangeAt g off cs)
    (hu : P.underlying ty = some d) (hd : d.isRow = true) (hi : (P.info? ty).map (·.size) = some cs.length) :
    (execOp ρ o).run P w = .ok (.value (.agg cs.toArray)) w := by
  unfold execOp
  simp only [ho, hx, Instr.loadAt, Instr.sureAddr, Sem.run_bind, Sem.run_pure, Result.andThen_ok, run_loadVar_mid w g off ty cs d hg hu hd hi]
theorem gives_store_part {o : Oper} {a : Act} {w : World} {ty : TypeId} {x y : Operand} (ho : o.op = .store ty x y) {g off : Nat} {vs : List Value} (hx : a.eval x = .pointer (some ⟨g, off, none⟩)) (hy : a.eval y = .agg vs.toArray)
    {l : List Value} {t : TypeId} (hg : Li.Blk w g l t) (hl : off + vs.length ≤ l.length) (hi : (P.info? ty).map (·.size) = some vs.length) (h1 : ∀ v ∈ vs, v.oneCell' = true) {G : Value → World → Prop} (hG : G undef (w.setCells g off vs)) : Gives P o a w G := by
  have hs := run_storeVar_mid (P := P) w g off ty vs.toArray (hg.there (by simpa using hl)) (by simpa using hi) (all_oneCell_toArray h1)
  unfold Gives execOp
  simp only [ho, hx, hy, Instr.storeAt, Instr.sureAddr, Sem.run_bind, Sem.run_pure, Result.andThen_ok, hs]
  exact hG
end
end Hv
end Go.Proofs.Ytgpbmohfgjmpkaa

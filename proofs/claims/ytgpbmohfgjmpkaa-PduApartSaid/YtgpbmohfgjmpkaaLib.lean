/- Small laws for the walks: parts of arrays, blocks that are known whole. No condition. -/
import Derived.WalkKit
import Derived.WalkSpells
import Derived.WalkLawsBesides
import Derived.Lib.Hide
import Derived.Deep.Heap
import Derived.Laws.Rows
import Derived.Deep.MidRow
namespace Go.Proofs.Ytgpbmohfgjmpkaa
open Go.RowKit
namespace Li
theorem run_size {P : Program} {e n : Nat} (hi : (P.info? e).map (·.size) = some n) (w : World) : (sizeOf e).run P w = .ok n w := by
  cases h : P.info? e with
  | none => simp [h] at hi
  | some i => simp [h] at hi; simp [sizeOf, typeInfo, h, hi]
/-- A part of an array behind a pointer. -/
theorem run_part {P : Program} {t : TypeId} {n : Nat} {e : TypeId} (ht : P.underlying t = some (.array n e)) (hi : (P.info? e).map (·.size) = some 1) (b o : Nat) {l h : Int} (l' h' : Nat)
    (el : l = (l' : Int)) (eh : h = (h' : Int)) (h1 : l' ≤ h') (h2 : h' ≤ n) (hn : l' < n) (w : World) :
    (Instr.sliceAt t (.pointer (some ⟨b, o, none⟩)) (some (.int .i64 l)) (some (.int .i64 h)) none).run P w = .ok (.slice (some ⟨b, o + l', none⟩) (h' - l') (n - l')) w := by
  subst el eh
  have e1 : P.arrayLen t = n := by simp [Program.arrayLen, ht]
  have e2 : P.elem t = e := by simp [Program.elem, ht]
  have ne : n ≠ l' := by omega
  rw [run_sliceAt_array_lh w t _ (by rw [e1, e2]; exact ht) .i64 .i64 l' h' (by omega) (by omega) (by rw [e1]; omega), e1, e2, run_size hi]
  simp [slicedAt, ne, Addr.add]
/-- An element of an array's value. -/
theorem run_index {P : Program} {t : TypeId} {n : Nat} {e : TypeId} {ki : IntKind} (ht : P.underlying t = some (.array n e)) (he : P.underlying e = some (.int ki)) (hs : (P.info? e).map (·.size) = some 1) (l : List Value) (k : Nat) (hk : k < n) {v : Value} (hv : l[k]? = some v) (w : World) :
    (Instr.index t (.agg l.toArray) (.int .i64 (k : Int))).run P w = .ok v w := by
  have hagg : (isAgg e).run P w = .ok false w := by
    unfold isAgg; rw [Sem.run_bind, run_underlying he w]; rfl
  unfold Instr.index
  simp [asIntOf, run_underlying ht, part, hagg, run_size hs, hv, hk]
/-- A block that is known whole. -/
def Blk (w : World) (b : Nat) (l : List Value) (t : TypeId) : Prop := w.heap[b]? = some (.cells l.toArray t (0, 0))
theorem Blk.cell {w : World} {b : Nat} {l : List Value} {t : TypeId} (h : Blk w b l t) (i : Nat) : w.cell? ⟨b, i, none⟩ = l[i]? := by
  rw [cell_of_row w b i _ t _ h]; simp
theorem Blk.frozen {w : World} {b : Nat} {l : List Value} {t : TypeId} (h : Blk w b l t) (i : Nat) : w.frozen? ⟨b, i, none⟩ = false := frozen_of_row w b i _ t h
theorem Blk.lt {w : World} {b : Nat} {l : List Value} {t : TypeId} (h : Blk w b l t) : b < w.heap.size := by
  unfold Blk at h
  by_cases hb : b < w.heap.size
  · exact hb
  · rw [Array.getElem?_eq_none (by omega)] at h; cases h
theorem Blk.of_block {w w' : World} {b : Nat} {l : List Value} {t : TypeId} (h : Blk w b l t) (e : w'.heap[b]? = w.heap[b]?) : Blk w' b l t := e.trans h
theorem Blk.below {w w' : World} {b B : Nat} {l : List Value} {t : TypeId} (h : Blk w b l t) (hb : Below B w w') (hlt : b < B) : Blk w' b l t := h.of_block (hb.block b hlt)
theorem Blk.grow {w w' : World} {b : Nat} {l : List Value} {t : TypeId} (h : Blk w b l t) (hb : Below w.heap.size w w') : Blk w' b l t := h.below hb h.lt
theorem Blk.alloc {w : World} {b : Nat} {l : List Value} {t : TypeId} (h : Blk w b l t) (o : Obj) : Blk (w.alloc o) b l t := h.of_block (Below.heap_alloc w o b h.lt)
theorem Blk.drew {w : World} {b : Nat} {l : List Value} {t : TypeId} (h : Blk w b l t) : Blk w.drew b l t := h
theorem Blk.drewN {w : World} {b : Nat} {l : List Value} {t : TypeId} (h : Blk w b l t) (n : Nat) : Blk (w.drewN n) b l t := h
theorem Blk.new (w : World) (l : List Value) (t : TypeId) : Blk (w.alloc (.cells l.toArray t)) w.heap.size l t := heap_alloc_new w _
theorem Blk.new' {w : World} {l : List Value} {t : TypeId} {n : Nat} (h : n = w.heap.size) : Blk (w.alloc (.cells l.toArray t)) n l t := by subst h; exact heap_alloc_new w _
theorem Blk.set {w : World} {b : Nat} {l : List Value} {t : TypeId} (h : Blk w b l t) (i : Nat) (v : Value) : Blk (w.setCell ⟨b, i, none⟩ v) b (l.set i v) t := by
  unfold Blk
  rw [heap_setCell_same w b i _ t v h]; simp
theorem Blk.setOther {w : World} {b : Nat} {l : List Value} {t : TypeId} (h : Blk w b l t) {a : Addr} (ha : b ≠ a.block) (v : Value) : Blk (w.setCell a v) b l t :=
  h.of_block (heap_setCell_other w a b v ha)
theorem Blk.setCells : ∀ (vs : List Value) (o : Nat) {w : World} {b : Nat} {l : List Value} {t : TypeId}, Blk w b l t → o + vs.length ≤ l.length → Blk (w.setCells b o vs) b (l.take o ++ vs ++ l.drop (o + vs.length)) t
  | [], o, w, b, l, t, h, ho => by
    simp only [World.setCells, List.append_nil, List.length_nil, Nat.add_zero, List.take_append_drop]; exact h
  | v :: r, o, w, b, l, t, h, ho => by
    simp only [World.setCells, List.length_cons] at *
    have := Blk.setCells r (o + 1) (h.set o v) (by simp; omega)
    rw [List.take_succ_eq_append_getElem (by simp; omega), List.drop_set_of_lt (by omega)] at this
    simp only [List.take_set_of_le (Nat.le_refl o), List.getElem_set_self, List.append_assoc, List.cons_append, List.nil_append] at this
    simpa [Nat.add_assoc, Nat.add_comm 1] using this
theorem Blk.setAll {w : World} {b : Nat} {l vs : List Value} {t : TypeId} (h : Blk w b l t) (hl : vs.length = l.length) : Blk (w.setCells b 0 vs) b vs t := by
  have := Blk.setCells vs 0 h (by omega)
  simpa [hl] using this
theorem heap_setCells_other : ∀ (vs : List Value) (o : Nat) (w : World) (b k : Nat), k ≠ b → (w.setCells b o vs).heap[k]? = w.heap[k]?
  | [], _, _, _, _, _ => rfl
  | v :: r, o, w, b, k, h => by rw [World.setCells, heap_setCells_other r _ _ b k h, heap_setCell_other _ _ _ _ h]
theorem size_setCells : ∀ (vs : List Value) (o : Nat) (w : World) (b : Nat), (w.setCells b o vs).heap.size = w.heap.size
  | [], _, _, _ => rfl
  | v :: r, o, w, b => by rw [World.setCells, size_setCells r]; simp [World.setCell]
theorem Blk.setCellsOther {w : World} {b c : Nat} {l : List Value} {t : TypeId} (h : Blk w b l t) (hc : b ≠ c) (o : Nat) (vs : List Value) : Blk (w.setCells c o vs) b l t := h.of_block (heap_setCells_other vs o w c b hc)
theorem below_setCells {B : Nat} {a : World} : ∀ (vs : List Value) (o : Nat) (w : World) (b : Nat), Below B a w → B ≤ b → Below B a (w.setCells b o vs)
  | [], _, _, _, h, _ => h
  | _ :: r, _, _, b, h, hb => below_setCells r _ _ b (h.setCell hb _) hb
section
variable {P : Program}
/-- A whole block is loaded. -/
theorem wpList_load_blk {ops : Array Oper} {rest : List Oper} {o : Oper} {a : Act} {w : World} {Q : Exit → Act → World → Prop} (hgd : o.guard = none) (ty : TypeId) (x : Operand) (ho : o.op = .load ty x)
    (g : Nat) (hx : a.eval x = .pointer (some ⟨g, 0, none⟩)) {t : TypeId} {l : List Value} {d : TypeDesc} (hg : Blk w g l t)
    (hu : P.underlying ty = some d) (hd : (match d with | .struct _ | .array _ _ => true | _ => false) = true) (hi : (P.info? ty).map (·.size) = some l.length)
    (h : wpList P ops Q rest (a.put o.dst (.agg l.toArray)) w) : wpList P ops Q (o :: rest) a w :=
  wpList_load_row hgd ty x ho g hx t l.toArray (0, 0) d hg hu hd (by simpa using hi) h
/-- A whole block is stored. -/
theorem wpList_store_blk {ops : Array Oper} {rest : List Oper} {o : Oper} {a : Act} {w : World} {Q : Exit → Act → World → Prop} (hgd : o.guard = none) (ty : TypeId) (x y : Operand) (ho : o.op = .store ty x y)
    (g : Nat) {vs : List Value} (hx : a.eval x = .pointer (some ⟨g, 0, none⟩)) (hy : a.eval y = .agg vs.toArray) {t : TypeId} {l : List Value} (hg : Blk w g l t) (hl : vs.length = l.length)
    (hi : (P.info? ty).map (·.size) = some vs.length) (h1 : ∀ v ∈ vs, v.oneCell' = true)
    (h : wpList P ops Q rest (a.put o.dst undef) (w.setCells g 0 vs)) : wpList P ops Q (o :: rest) a w :=
  wpList_store_mid hgd ty x y ho g 0 vs.toArray hx hy
    (fun j hj => ⟨by rw [Nat.zero_add, hg.cell]; simp at hj; simp [show j < l.length by omega], hg.frozen _⟩) (by simpa using hi) (all_oneCell_toArray h1) h
/-- A result that is a whole block. -/
theorem bodyPost_blk {fn : Func} {R : Ending → World → Prop} {a : Act} {w : World} {p : Tmp} {ty : TypeId} {g : Nat} {l : List Value} {t : TypeId} {d : TypeDesc} (hr : fn.results = #[.cell p ty])
    (hp : a.tmps.getD p undef = .pointer (some ⟨g, 0, none⟩)) (hg : Blk w g l t) (hu : P.underlying ty = some d) (hd : (match d with | .struct _ | .array _ _ => true | _ => false) = true)
    (hi : (P.info? ty).map (·.size) = some l.length) (hdf : a.defers = []) (hR : R (.returned (.agg l.toArray)) w) : bodyPost P fn R .ret a w :=
  bodyPost_ret (results_cell_row hr _ w g t l.toArray (0, 0) d hp hg hu hd (by simpa using hi)) hdf hR
end
theorem frozen_alloc_some (w : World) (a : Addr) (o : Obj) (h : (w.cell? a).isSome = true) : (w.alloc o).frozen? a = w.frozen? a := by
  obtain ⟨u, hu⟩ := Option.isSome_iff_exists.1 h
  exact World.frozen?_alloc_old _ _ _ (Nat.ne_of_lt (World.block_lt_of_cell? w a hu))
theorem below_drewN {B : Nat} {a w : World} (h : Below B a w) (n : Nat) : Below B a (w.drewN n) := ⟨h.os, h.tape, h.output, h.size, h.block⟩
end Li
end Go.Proofs.Ytgpbmohfgjmpkaa

/- More operations as steps: a composite value whose cells are known. No condition but Go's own limits. -/
import Derived.Test.YtgpbmohfgjmpkaaSepMore
namespace Go.Proofs.Ytgpbmohfgjmpkaa
open Go Go.RowKit
namespace Se
open Li (Blk Rd Fr)
section
variable {P : Program} {w0 w : World} {X : List Nat} {L : List At} {o : Oper} {a : Act} {G : Value → World → Prop}
theorem bd {ty : TypeId} {parts : List (Nat × Operand)} (ho : o.op = .build ty parts.toArray) {vs : List (Nat × Value)} (hv : parts.map (fun p => (p.1, a.eval p.2)) = vs) {v : Value} (hb : (Instr.build ty vs.toArray).run P w = .ok v w) (h : G v w) : Hv.Gives P o a w G := by
  subst hv
  unfold Hv.Gives execOp
  have e : (parts.toArray.map fun (i, x) => (i, a.eval x)) = (parts.map (fun p => (p.1, a.eval p.2))).toArray := by simp
  simp only [ho, e, Sem.run_bind, hb, Result.andThen_ok, Sem.run_pure]
  exact h
theorem foldl_set (off : Nat) (xs : List Value) : ∀ (k : Nat) (cs : Array Value), off + k + xs.length ≤ cs.size → ((xs.zipIdx k).foldl (fun cs (p : Value × Nat) => cs.setIfInBounds (off + p.2) p.1) cs).toList = cs.toList.take (off + k) ++ xs ++ cs.toList.drop (off + k + xs.length) := by
  induction xs with
  | nil => intro k cs h; simp
  | cons x xs ih =>
    intro k cs h
    have e : ((x :: xs).zipIdx k).foldl (fun cs (p : Value × Nat) => cs.setIfInBounds (off + p.2) p.1) cs = (xs.zipIdx (k + 1)).foldl (fun cs (p : Value × Nat) => cs.setIfInBounds (off + p.2) p.1) (cs.setIfInBounds (off + k) x) := by simp
    rw [e, ih (k + 1) _ (by simp at h ⊢; omega)]
    simp only [Array.toList_setIfInBounds]
    have := list_seg_step cs.toList (off + k) x xs (by simp at h ⊢; omega)
    rw [← Nat.add_assoc, this]
    simp [Nat.add_assoc]
theorem fill_row {s : Nat} {cs0 : Array Value} (h0 : cs0.size = s) {xs : List Value} (hx : xs.length = s) : Instr.fill (fun i => some (i * s, s)) cs0 [(0, .agg xs.toArray)] = some xs.toArray := by
  have e := foldl_set (0 * s) xs 0 cs0 (by omega)
  rw [Nat.zero_mul, Nat.add_zero, List.take_zero, List.nil_append, Nat.zero_add, List.drop_eq_nil_of_le (by simp; omega), List.append_nil] at e
  simp only [Instr.fill, Value.cells, Nat.zero_mul, Nat.zero_add] at e ⊢
  rw [if_neg (by simp; omega)]
  have e3 : xs.toArray.zipIdx = xs.zipIdx.toArray := by apply Array.toList_inj.1; simp
  rw [e3, List.foldl_toArray]
  congr 1
  apply Array.toList_inj.1
  exact e
/-- A literal slice of one element of several cells. -/
theorem bs1 (hs : St w0 X L w) {ty : TypeId} {x : Operand} (ho : o.op = .buildSlice ty 1 #[(0, x)]) {e : TypeId} (ht : P.underlying ty = some (.slice e)) {z : Value} {s b : Nat} (hi : (P.info? e).map (fun i => (i.zero, i.size, i.bytes)) = some (some z, s, b)) (hb : s ≤ 16777216) (h0 : s ≠ 0) {xs : List Value} (hx : a.eval x = .agg xs.toArray) (hl : xs.length = s)
    (h : ∀ (w' : World) (g : Nat), g = w.heap.size → St w0 X (.blk g e xs :: L) w' → G (.slice (some ⟨g, 0, none⟩) 1 1) w') : Hv.Gives P o a w G := by
  refine bs hs ho ht (z := z) (s := s) ?_ (by omega) (by omega) (cs := xs.toArray) ?_ h
  · cases hq : P.info? e with
    | none => simp [hq] at hi
    | some i =>
      simp [hq] at hi ⊢
      exact ⟨hi.1, hi.2.1⟩
  · simp only [List.map_toArray, List.map_cons, List.map_nil, hx]
    exact fill_row (by simp) hl
end
end Se
end Go.Proofs.Ytgpbmohfgjmpkaa

/- Rows of which a first part is set. No condition. -/
import Derived.Test.YtgpbmohfgjmpkaaLib
namespace Go.Proofs.Ytgpbmohfgjmpkaa
open Go.RowKit
namespace Li
/-- n cells of which the first are l, the others z. -/
def rowOf (z : Value) (n : Nat) (l : List Value) : List Value := l ++ List.replicate (n - l.length) z
theorem rowOf_length (z : Value) (n : Nat) (l : List Value) (h : l.length ≤ n) : (rowOf z n l).length = n := by simp [rowOf]; omega
theorem rowOf_full (z : Value) (n : Nat) (l : List Value) (h : l.length = n) : rowOf z n l = l := by simp [rowOf, h]
theorem rowOf_get (z : Value) (n : Nat) (l : List Value) (i : Nat) (h : i < n) : (rowOf z n l)[i]? = some (l.getD i z) := by
  unfold rowOf
  by_cases hi : i < l.length
  · rw [List.getElem?_append_left hi]; simp [hi]
  · rw [List.getElem?_append_right (by omega)]
    simp [List.getElem?_replicate, List.getElem?_eq_none (show l.length ≤ i by omega)]; omega
theorem rowOf_set (z : Value) (n : Nat) (l : List Value) (h : l.length < n) (x : Value) : (rowOf z n l).set l.length x = rowOf z n (l ++ [x]) := by
  unfold rowOf
  have e : n - l.length = (n - (l ++ [x]).length) + 1 := by simp; omega
  rw [e, List.replicate_succ, List.set_append_right _ _ (by simp)]
  simp
/-- The first part of an array behind a pointer. -/
theorem run_first {P : Program} {t : TypeId} {n : Nat} {e : TypeId} (ht : P.underlying t = some (.array n e)) (hi : (P.info? e).map (·.size) = some 1) (b o : Nat) (h : Nat) (h2 : h ≤ n) (w : World) :
    (Instr.sliceAt t (.pointer (some ⟨b, o, none⟩)) none (some (.int .i64 (h : Int))) none).run P w = .ok (.slice (some ⟨b, o, none⟩) h n) w := by
  have e1 : P.arrayLen t = n := by simp [Program.arrayLen, ht]
  have e2 : P.elem t = e := by simp [Program.elem, ht]
  rw [run_sliceAt_array_h w t _ (by rw [e1, e2]; exact ht) .i64 h (by omega) (by rw [e1]; omega), e1, e2, run_size hi]
  simp [slicedAt, Addr.add]
end Li
end Go.Proofs.Ytgpbmohfgjmpkaa

/- Equality of arrays of bytes and of heads. No condition. -/
import Derived.Test.YtakdoijemopejaaGreatAuRead
import Derived.Laws.StructEq
set_option linter.unusedSimpArgs false
set_option linter.unusedVariables false
namespace Go.Proofs.YtakdoijemopejaaGreat
open Go Go.RowKit
namespace Au
open Li (v8 v8_one Rd)
open Bv (n8 n16 n32 n64)
theorem eqItems_bytes {P : Program} {w : World} (d : Nat) {e : TypeId} (he : P.underlying e = some (.int .u8)) (xs ys : Bs) : ∀ is : List Nat, (∀ i ∈ is, i < xs.length ∧ i < ys.length) → (Op.eqItems (d + 1) e 1 (xs.map v8).toArray (ys.map v8).toArray is).run P w = .ok (is.all fun i => xs.getD i 0#8 == ys.getD i 0#8) w
 | [], _ => by simp [Op.eqItems]
 | i :: is, h => by
  have hh := h i List.mem_cons_self
  have hr : (isAgg e).run P w = .ok false w := Se.run_isRow (by rw [he]; rfl) w
  have hp : ∀ zs : Bs, i < zs.length → (part e (zs.map v8).toArray (i * 1)).run P w = .ok (.int .u8 (n8 (zs.getD i 0#8))) w := fun zs hz => by
   simp [part, hr, hz]
  have ih := eqItems_bytes (w := w) d he xs ys is fun j hj => h j (List.mem_cons_of_mem _ hj)
  simp only [Op.eqItems, Sem.run_bind, hp xs hh.1, hp ys hh.2, Result.andThen_ok, run_equalIn_int _ _ _ _ _ _ _ he, Bv.n8_beq, List.all_cons]
  cases hb : (xs.getD i 0#8 == ys.getD i 0#8) with
  | true => simpa using ih
  | false => simp
theorem all_eq (xs ys : Bs) (n : Nat) (hx : xs.length = n) (hy : ys.length = n) : ((List.range n).all fun i => xs.getD i 0#8 == ys.getD i 0#8) = decide (xs = ys) := by
 rw [Bool.eq_iff_iff]
 simp only [List.all_eq_true, List.mem_range, beq_iff_eq, decide_eq_true_eq]
 constructor
 ·intro h
  apply List.ext_getElem (by omega)
  intro i h1 h2
  have := h i (by omega)
  simpa [h1, h2] using this
 ·rintro rfl i _; rfl
theorem run_eqB (w : World) {xs ys : Bs} (hx : xs.length = 32) (hy : ys.length = 32) : (Op.equalIn 10000 34 (.agg (xs.map v8).toArray) (.agg (ys.map v8).toArray)).run Tryz.prog w = .ok (decide (xs = ys)) w := by
 have hi : (Tryz.prog.info? 5).isSome = true := by kernel_rfl
 obtain ⟨i, hi⟩ := Option.isSome_iff_exists.1 hi
 rw [run_equalIn_array w 9999 _ _ Tryz.underlying34 hi, show Tryz.prog.cellsOf 5 = 1 by kernel_rfl, eqItems_bytes 9998 Tryz.underlying5 xs ys (List.range 32) (fun j hj => by have := List.mem_range.1 hj; omega), all_eq _ _ _ hx hy]
theorem neB (w : World) {xs ys : Bs} (hx : xs.length = 32) (hy : ys.length = 32) : (binOp .neq 34 (.agg (xs.map v8).toArray) (.agg (ys.map v8).toArray)).run Tryz.prog w = .ok (.bool (decide (xs ≠ ys))) w := by
 rw [run_neq_struct]
 simp only [Sem.run_bind, run_eqB w hx hy, Result.andThen_ok, Sem.run_pure]
 simp
theorem eqB (w : World) {xs ys : Bs} (hx : xs.length = 32) (hy : ys.length = 32) : (binOp .eql 34 (.agg (xs.map v8).toArray) (.agg (ys.map v8).toArray)).run Tryz.prog w = .ok (.bool (decide (xs = ys))) w := by
 rw [run_eql_struct]
 simp only [Sem.run_bind, run_eqB w hx hy, Result.andThen_ok, Sem.run_pure]
/-- A head's cells. -/
def hc (h : Hd) : List Value := [.int .u8 (n8 h.k), .int .u8 (n8 h.f), .int .u16 (n16 h.q), .int .u32 (n32 h.s)]
theorem neH (w : World) (a b : Hd) : (binOp .neq 67 (.agg (hc a).toArray) (.agg (hc b).toArray)).run Tryz.prog w = .ok (.bool (decide (a ≠ b))) w := by
 obtain ⟨k, f, q, s⟩ := a
 obtain ⟨k', f', q', s'⟩ := b
 rw [run_neq_struct]
 simp only [hc]
 rw [run_equalIn_struct w 9999 67 _ _ (by kernel_rfl) (by kernel_rfl)]
 simp only [Program.fieldsOf, Tryz.underlying67]
 simp [go_sem, Tryz.underlying5, Tryz.underlying33, Tryz.underlying32, Bv.n8_beq, Bv.n16_beq, Bv.n32_beq]
 by_cases h1 : k = k' <;> by_cases h2 : f = f' <;> by_cases h3 : q = q' <;> by_cases h4 : s = s' <;> simp [h1, h2, h3, h4]
end Au
end Go.Proofs.YtakdoijemopejaaGreat

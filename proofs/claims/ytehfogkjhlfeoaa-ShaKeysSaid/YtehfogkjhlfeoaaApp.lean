/- append in a walk, and the small functions on byte slices of this program: own copies, sameness. No condition but Go's own limits. -/
import Derived.Test.YtehfogkjhlfeoaaOwn
import Derived.Test.YtehfogkjhlfeoaaProg
import Derived.Test.YtehfogkjhlfeoaaBv
import Derived.Laws.BytesArg
import Derived.Test.YtehfogkjhlfeoaaHavoc
namespace Go.Proofs.Ytehfogkjhlfeoaa
open Go Go.RowKit
namespace Li
theorem wpList_append_os {P : Program} {ops : Array Oper} {rest : List Oper} {o : Oper} {a : Act} {Q : Exit → Act → World → Prop} {w : World} (hgd : o.guard = none) (s x : Operand) {t e : TypeId} {z : Value}
    (ho : o.op = .call { callee := .builtin .append, args := #[s, x], argTypes := #[t, t] })
    (ht : P.underlying t = some (.slice e)) (hinfo : (P.info? e).map (fun i => (i.zero, i.size, i.bytes)) = some (some z, 1, 1)) (hz1 : z.cells = #[z])
    {r : Option Nat} {A B : Option Addr} {c n m cy : Nat} {xs ys : List Value} (hs : a.eval s = .slice A n c) (hx : a.eval x = .slice B m cy)
    (hO : Os w e r A c xs) (hR : Rd w B ys) (hy : ∀ v ∈ ys, v.oneCell' = true) (hn : n = xs.length) (hm : m = ys.length) (hle : n + m ≤ 70368744177664)
    (h : ∀ A' c' r' w', Os w' e r' A' c' (xs ++ ys) → w.grownBy w' r → (r' = r ∨ r' = some w.heap.size) → wpList P ops Q rest (a.put o.dst (.slice A' (n + m) c')) w') : wpList P ops Q (o :: rest) a w := by
  refine wpList_plain hgd fun K hK => ?_
  obtain ⟨A', c', r', w', hr, h1, h2, h3⟩ := run_append_os (P := P) (ty := o.type) ht hinfo hz1 hO hR hy hn hm hle (cy := cy)
  unfold Oper.wp execOp
  simp only [ho, resolve, invoke, builtin, Sem.run_bind, Sem.run_pure, Result.andThen_ok, List.map_toArray, List.map_cons, List.map_nil, hs, hx, hr]
  exact hK _ _ (h A' c' r' w' h1 h2 h3)
theorem gives_append_os {P : Program} {o : Oper} {a : Act} {G : Value → World → Prop} {w : World} (s x : Operand) {t e : TypeId} {z : Value}
    (ho : o.op = .call { callee := .builtin .append, args := #[s, x], argTypes := #[t, t] })
    (ht : P.underlying t = some (.slice e)) (hinfo : (P.info? e).map (fun i => (i.zero, i.size, i.bytes)) = some (some z, 1, 1)) (hz1 : z.cells = #[z])
    {r : Option Nat} {A B : Option Addr} {c n m cy : Nat} {xs ys : List Value} (hs : a.eval s = .slice A n c) (hx : a.eval x = .slice B m cy)
    (hO : Os w e r A c xs) (hR : Rd w B ys) (hy : ∀ v ∈ ys, v.oneCell' = true) (hn : n = xs.length) (hm : m = ys.length) (hle : n + m ≤ 70368744177664)
    (h : ∀ A' c' r' w', Os w' e r' A' c' (xs ++ ys) → w.grownBy w' r → (r' = r ∨ r' = some w.heap.size) → G (.slice A' (n + m) c') w') : Hv.Gives P o a w G := by
  obtain ⟨A', c', r', w', hr, h1, h2, h3⟩ := run_append_os (P := P) (ty := o.type) ht hinfo hz1 hO hR hy hn hm hle (cy := cy)
  unfold Hv.Gives execOp
  simp only [ho, resolve, invoke, builtin, Sem.run_bind, Sem.run_pure, Result.andThen_ok, List.map_toArray, List.map_cons, List.map_nil, hs, hx, hr]
  exact h A' c' r' w' h1 h2 h3
theorem grown_none {w w' : World} (h : w.grownBy w' none) : Below w.heap.size w w' := ⟨h.os, h.tape, h.output, h.size, fun k hk => h.block k hk (by simp)⟩
theorem grown_below {w w' : World} {B : Nat} {r : Option Nat} (h : w.grownBy w' r) (hB : B ≤ w.heap.size) (hr : ∀ g, r = some g → B ≤ g) : Below B w w' :=
  ⟨h.os, h.tape, h.output, h.size, fun k hk => h.block k (by omega) (fun e => by have := hr k e.symm; omega)⟩
abbrev v8 (b : BitVec 8) : Value := .int .u8 (Bv.n8 b)
theorem v8_one (bs : List (BitVec 8)) : ∀ v ∈ bs.map v8, v.oneCell' = true := by
  intro v hv; obtain ⟨b, _, rfl⟩ := List.mem_map.1 hv; rfl
/-- The bytes as a string. -/
def str (bs : List (BitVec 8)) : ByteArray := strOfNums (bs.map Bv.n8)
theorem run_str {P : Program} {src e dst : TypeId} (hs : P.underlying src = some (.slice e)) (he : P.underlying e = some (.int .u8)) (hd : P.underlying dst = some .string) {A : Option Addr} {n c : Nat} {bs : List (BitVec 8)} {w : World} (h : Rd w A (bs.map v8)) (hn : n = bs.length) :
    (convert src dst (.slice A n c)).run P w = .ok (.string (str bs)) w := by
  subst hn
  by_cases hb : bs = []
  · subst hb
    rw [run_convert_bytes_string w src dst e _ _ _ hs he hd]
    cases A with
    | none => simp [Conv.bytesToString, str, strOfNums]; rfl
    | some a =>
      rw [List.length_nil, run_bytesToString w a 0 c [] (by simp [loadCells, loadCellsFrom])]
      simp [str, strOfNums]; rfl
  · obtain ⟨g, off, rfl, _, hc⟩ := h.cells (by simpa using hb)
    refine run_convert_bytes_arg w src e hs he g off bs.length c (bs.map Bv.n8) (by simp) (fun i hi => ?_) dst hd
    rw [hc i (by simpa using hi)]
    simp [hi]
end Li
theorem info5 : (Try.prog.info? 5).map (fun i => (i.zero, i.size, i.bytes)) = some (some (.int .u8 0), 1, 1) := by kernel_rfl
/-- An own copy. -/
theorem own_any {A : Option Addr} {n c : Nat} {xs : List Value} (w : World) (hR : Li.Rd w A xs) (hx : ∀ v ∈ xs, v.oneCell' = true) (hn : n = xs.length) (hle : n ≤ 70368744177664) :
    Calls Try.prog 11 #[.slice A n c] w fun e w' => ∃ A' c' r', e = .returned (.slice A' n c') ∧ Li.Os w' 5 r' A' c' xs ∧ Below w.heap.size w w' ∧ (r' = none ∨ r' = some w.heap.size) := by
  have HN := Lib.hid hn
  clear hn
  go_enter Try.func11, Try.ntmps11
  go_wp2_with (refine Li.wpList_append_os (n := 0) (m := n) (z := .int .u8 0) rfl _ _ rfl Try.underlying22 info5 rfl (by rfl) (by rfl) (Li.Os.nil _ _ none) hR hx rfl HN.out (by omega) ?_; intro A1 c1 r1 w1 h1 h2 h3)
  go_ret
  exact ⟨A1, c1, r1, rfl, h1, Li.grown_none h2, h3⟩
/-- Sameness of equal slices. -/
theorem same_any {A B : Option Addr} {n m c d : Nat} {bs cs : List (BitVec 8)} (w : World) (hA : Li.Rd w A (bs.map Li.v8)) (hB : Li.Rd w B (cs.map Li.v8)) (hn : n = bs.length) (hm : m = cs.length) (he : bs = cs) :
    Calls Try.prog 14 #[.slice A n c, .slice B m d] w fun e w' => e = .returned (.bool true) ∧ w = w' := by
  have h1 := Li.run_str (P := Try.prog) (dst := 9) (src := 22) Try.underlying22 Try.underlying5 Try.underlying9 (c := c) hA hn
  have h2 := Li.run_str (P := Try.prog) (dst := 9) (src := 22) Try.underlying22 Try.underlying5 Try.underlying9 (c := d) hB hm
  subst he
  obtain ⟨S, hS⟩ : ∃ S, S = Li.str bs := ⟨_, rfl⟩
  rw [← hS] at h1 h2
  clear hS hA hB hn hm
  go_enter Try.func14, Try.ntmps14
  go_wp2_with fail
  go_ret
  exact ⟨by simp, rfl⟩
end Go.Proofs.Ytehfogkjhlfeoaa

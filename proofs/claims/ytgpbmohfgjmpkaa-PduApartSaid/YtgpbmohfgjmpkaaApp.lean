/- append in a walk, and the small functions on byte slices of this program: own copies, sameness. No condition but Go's own limits. -/
import Derived.Test.YtgpbmohfgjmpkaaOwn
import Derived.Test.YtgpbmohfgjmpkaaProg
import Derived.Test.YtgpbmohfgjmpkaaBv
import Derived.Laws.BytesArg
import Derived.Test.YtgpbmohfgjmpkaaHavoc
namespace Go.Proofs.Ytgpbmohfgjmpkaa
open Go Go.RowKit
namespace Li
theorem wpList_append_os {P : Program} {ops : Array Oper} {rest : List Oper} {o : Oper} {a : Act} {Q : Exit → Act → World → Prop} {w : World} (hgd : o.guard = none) (s x : Operand) {t e : TypeId} {z : Value}
    (ho : o.op = .call { callee := .builtin .append, args := #[s, x], argTypes := #[t, t] })
    (ht : P.underlying t = some (.slice e)) (hinfo : (P.info? e).map (fun i => (i.zero, i.size, i.bytes)) = some (some z, 1, 1)) (hz1 : z.cells = #[z])
    {r : Option Nat} {A B : Option Addr} {c n m cy : Nat} {xs ys : List Value} (hs : a.eval s = .slice A n c) (hx : a.eval x = .slice B m cy)
    (hO : Os w e r A c xs) (hR : Rd w B ys) (hy : ∀ v ∈ ys, v.oneCell' = true) (hn : n = xs.length) (hm : m = ys.length) (hle : n + m ≤ 70368744177664)
    (h : ∀ A' c' r' w', Os w' e r' A' c' (xs ++ ys) → w.grownBy w' r → (r' = r ∨ r' = some w.heap.size) → wpList P ops Q rest (a.put o.dst (.slice A' (n + m) c')) w') : wpList P ops Q (o :: rest) a w := by
  refine wpList_plain hgd fun K hK => ?_
  obtain ⟨A', c', r', w', hr, h1, h2, h3⟩ := run_append_os (P := P) (ty := o.type) ht hinfo hz1 hO hR hy hn hm hle (cy := cy)
  unfold Oper.wp execOp
  simp only [ho, resolve, invoke, builtin, Sem.run_bind, Sem.run_pure, Result.andThen_ok, List.map_toArray, List.map_cons, List.map_nil, hs, hx, hr]
  exact hK _ _ (h A' c' r' w' h1 h2 h3)
theorem gives_append_os {P : Program} {o : Oper} {a : Act} {G : Value → World → Prop} {w : World} (s x : Operand) {t e : TypeId} {z : Value}
    (ho : o.op = .call { callee := .builtin .append, args := #[s, x], argTypes := #[t, t] })
    (ht : P.underlying t = some (.slice e)) (hinfo : (P.info? e).map (fun i => (i.zero, i.size, i.bytes)) = some (some z, 1, 1)) (hz1 : z.cells = #[z])
    {r : Option Nat} {A B : Option Addr} {c n m cy : Nat} {xs ys : List Value} (hs : a.eval s = .slice A n c) (hx : a.eval x = .slice B m cy)
    (hO : Os w e r A c xs) (hR : Rd w B ys) (hy : ∀ v ∈ ys, v.oneCell' = true) (hn : n = xs.length) (hm : m = ys.length) (hle : n + m ≤ 70368744177664)
    (h : ∀ A' c' r' w', Os w' e r' A' c' (xs ++ ys) → w.grownBy w' r → (r' = r ∨ r' = some w.heap.size) → G (.slice A' (n + m) c') w') : Hv.Gives P o a w G := by
  obtain ⟨A', c', r', w', hr, h1, h2, h3⟩ := run_append_os (P := P) (ty := o.type) ht hinfo hz1 hO hR hy hn hm hle (cy := cy)
  unfold Hv.Gives execOp
  simp only [ho, resolve, invoke, builtin, Sem.run_bind, Sem.run_pure, Result.andThen_ok, List.map_toArray, List.map_cons, List.map_nil, hs, hx, hr]
  exact h A' c' r' w' h1 h2 h3
theorem grown_none {w w' : World} (h : w.grownBy w' none) : Below w.heap.size w w' := ⟨h.os, h.tape, h.output, h.size, fun k hk => h.block k hk (by simp)⟩
theorem grown_below {w w' : World} {B : Nat} {r : Option Nat} (h : w.grownBy w' r) (hB : B ≤ w.heap.size) (hr : ∀ g, r = some g → B ≤ g) : Below B w w' :=
  ⟨h.os, h.tape, h.output, h.size, fun k hk => h.block k (by omega) (fun e => by have := hr k e.symm; omega)⟩
abbrev v8 (b : BitVec 8) : Value := .int .u8 (Bv.n8 b)
theorem v8_one (bs : List (BitVec 8)) : ∀ v ∈ bs.map v8, v.oneCell' = true := by
  intro v hv; obtain ⟨b, _, rfl⟩ := List.mem_map.1 hv; rfl
/-- The bytes as a string. -/
def str (bs : List (BitVec 8)) : ByteArray := strOfNums (bs.map Bv.n8)
theorem run_str {P : Program} {src e dst : TypeId} (hs : P.underlying src = some (.slice e)) (he : P.underlying e = some (.int .u8)) (hd : P.underlying dst = some .string) {A : Option Addr} {n c : Nat} {bs : List (BitVec 8)} {w : World} (h : Rd w A (bs.map v8)) (hn : n = bs.length) :
    (convert src dst (.slice A n c)).run P w = .ok (.string (str bs)) w := by
  subst hn
  by_cases hb : bs = []
  · subst hb
    rw [run_convert_bytes_string w src dst e _ _ _ hs he hd]
    cases A with
    | none => simp [Conv.bytesToString, str, strOfNums]; rfl
    | some a =>
      rw [List.length_nil, run_bytesToString w a 0 c [] (by simp [loadCells, loadCellsFrom])]
      simp [str, strOfNums]; rfl
  · obtain ⟨g, off, rfl, _, hc⟩ := h.cells (by simpa using hb)
    refine run_convert_bytes_arg w src e hs he g off bs.length c (bs.map Bv.n8) (by simp) (fun i hi => ?_) dst hd
    rw [hc i (by simpa using hi)]
    simp [hi]
end Li
end Go.Proofs.Ytgpbmohfgjmpkaa

/- More operations on memory as steps: stores into a slice of one's own at an address with an equation. No condition but Go's own limits. -/
import Derived.Test.YtgpbmohfgjmpkaaSepOp
namespace Go.Proofs.Ytgpbmohfgjmpkaa
open Go Go.RowKit
namespace Se
open Li (Blk Rd Fr)
theorem Ow.sets {w : World} {s g off n c i : Nat} {xs vs : List Value} (h : Ow w s (some g) (some ⟨g, off, none⟩) n c xs) (hi : i + vs.length ≤ xs.length) (hv : 0 < vs.length) :
    Ow (w.setCells g (off + i) vs) s (some g) (some ⟨g, off, none⟩) n c (xs.take i ++ vs ++ xs.drop (i + vs.length)) ∧ ∃ l t, Blk w g l t ∧ off + i + vs.length ≤ l.length := by
  obtain ⟨h1, h2, h | ⟨g', off', l, t, hA, hr, hb, h3, h4, h5⟩⟩ := h
  · have : n = 0 := by omega
    subst this; omega
  · cases hA; cases hr
    have hns : n * s ≤ c * s := Nat.mul_le_mul_right _ h2
    have hl : off + i + vs.length ≤ l.length := by omega
    refine ⟨⟨by simp; omega, h2, .inr ⟨g, off, _, t, rfl, rfl, hb.setCells vs (off + i) hl, by simp; omega, h4, ?_⟩⟩, l, t, hb, hl⟩
    rw [← h5]
    apply List.ext_getElem?
    intro j
    simp only [List.getElem?_take, List.getElem?_drop, List.getElem?_append, List.length_append, List.length_take, List.length_drop]
    repeat' split
    all_goals first | rfl | omega | (congr 1; omega) | (exfalso; omega) | (exact (List.getElem?_eq_none (by omega)).symm) | exact List.getElem?_eq_none (by omega)
section
variable {w0 w : World} {X : List Nat} {L : List At}
theorem St.u11 {x0 y0 : At} (h : St w0 X (x0 :: y0 :: L) w) : St w0 X (y0 :: x0 :: L) w := h.perm (by rw [show x0 :: y0 :: L = ([x0] ++ [y0]) ++ L from rfl, show y0 :: x0 :: L = ([y0] ++ [x0]) ++ L from rfl]; exact List.Perm.append_right L List.perm_append_comm)
theorem St.u12 {x0 x1 y0 : At} (h : St w0 X (x0 :: x1 :: y0 :: L) w) : St w0 X (y0 :: x0 :: x1 :: L) w := h.perm (by rw [show x0 :: x1 :: y0 :: L = ([x0, x1] ++ [y0]) ++ L from rfl, show y0 :: x0 :: x1 :: L = ([y0] ++ [x0, x1]) ++ L from rfl]; exact List.Perm.append_right L List.perm_append_comm)
theorem St.u13 {x0 x1 x2 y0 : At} (h : St w0 X (x0 :: x1 :: x2 :: y0 :: L) w) : St w0 X (y0 :: x0 :: x1 :: x2 :: L) w := h.perm (by rw [show x0 :: x1 :: x2 :: y0 :: L = ([x0, x1, x2] ++ [y0]) ++ L from rfl, show y0 :: x0 :: x1 :: x2 :: L = ([y0] ++ [x0, x1, x2]) ++ L from rfl]; exact List.Perm.append_right L List.perm_append_comm)
theorem St.u14 {x0 x1 x2 x3 y0 : At} (h : St w0 X (x0 :: x1 :: x2 :: x3 :: y0 :: L) w) : St w0 X (y0 :: x0 :: x1 :: x2 :: x3 :: L) w := h.perm (by rw [show x0 :: x1 :: x2 :: x3 :: y0 :: L = ([x0, x1, x2, x3] ++ [y0]) ++ L from rfl, show y0 :: x0 :: x1 :: x2 :: x3 :: L = ([y0] ++ [x0, x1, x2, x3]) ++ L from rfl]; exact List.Perm.append_right L List.perm_append_comm)
theorem St.u15 {x0 x1 x2 x3 x4 y0 : At} (h : St w0 X (x0 :: x1 :: x2 :: x3 :: x4 :: y0 :: L) w) : St w0 X (y0 :: x0 :: x1 :: x2 :: x3 :: x4 :: L) w := h.perm (by rw [show x0 :: x1 :: x2 :: x3 :: x4 :: y0 :: L = ([x0, x1, x2, x3, x4] ++ [y0]) ++ L from rfl, show y0 :: x0 :: x1 :: x2 :: x3 :: x4 :: L = ([y0] ++ [x0, x1, x2, x3, x4]) ++ L from rfl]; exact List.Perm.append_right L List.perm_append_comm)
theorem St.u16 {x0 x1 x2 x3 x4 x5 y0 : At} (h : St w0 X (x0 :: x1 :: x2 :: x3 :: x4 :: x5 :: y0 :: L) w) : St w0 X (y0 :: x0 :: x1 :: x2 :: x3 :: x4 :: x5 :: L) w := h.perm (by rw [show x0 :: x1 :: x2 :: x3 :: x4 :: x5 :: y0 :: L = ([x0, x1, x2, x3, x4, x5] ++ [y0]) ++ L from rfl, show y0 :: x0 :: x1 :: x2 :: x3 :: x4 :: x5 :: L = ([y0] ++ [x0, x1, x2, x3, x4, x5]) ++ L from rfl]; exact List.Perm.append_right L List.perm_append_comm)
theorem St.u21 {x0 y0 y1 : At} (h : St w0 X (x0 :: y0 :: y1 :: L) w) : St w0 X (y0 :: y1 :: x0 :: L) w := h.perm (by rw [show x0 :: y0 :: y1 :: L = ([x0] ++ [y0, y1]) ++ L from rfl, show y0 :: y1 :: x0 :: L = ([y0, y1] ++ [x0]) ++ L from rfl]; exact List.Perm.append_right L List.perm_append_comm)
theorem St.u22 {x0 x1 y0 y1 : At} (h : St w0 X (x0 :: x1 :: y0 :: y1 :: L) w) : St w0 X (y0 :: y1 :: x0 :: x1 :: L) w := h.perm (by rw [show x0 :: x1 :: y0 :: y1 :: L = ([x0, x1] ++ [y0, y1]) ++ L from rfl, show y0 :: y1 :: x0 :: x1 :: L = ([y0, y1] ++ [x0, x1]) ++ L from rfl]; exact List.Perm.append_right L List.perm_append_comm)
theorem St.u23 {x0 x1 x2 y0 y1 : At} (h : St w0 X (x0 :: x1 :: x2 :: y0 :: y1 :: L) w) : St w0 X (y0 :: y1 :: x0 :: x1 :: x2 :: L) w := h.perm (by rw [show x0 :: x1 :: x2 :: y0 :: y1 :: L = ([x0, x1, x2] ++ [y0, y1]) ++ L from rfl, show y0 :: y1 :: x0 :: x1 :: x2 :: L = ([y0, y1] ++ [x0, x1, x2]) ++ L from rfl]; exact List.Perm.append_right L List.perm_append_comm)
theorem St.u24 {x0 x1 x2 x3 y0 y1 : At} (h : St w0 X (x0 :: x1 :: x2 :: x3 :: y0 :: y1 :: L) w) : St w0 X (y0 :: y1 :: x0 :: x1 :: x2 :: x3 :: L) w := h.perm (by rw [show x0 :: x1 :: x2 :: x3 :: y0 :: y1 :: L = ([x0, x1, x2, x3] ++ [y0, y1]) ++ L from rfl, show y0 :: y1 :: x0 :: x1 :: x2 :: x3 :: L = ([y0, y1] ++ [x0, x1, x2, x3]) ++ L from rfl]; exact List.Perm.append_right L List.perm_append_comm)
theorem St.u25 {x0 x1 x2 x3 x4 y0 y1 : At} (h : St w0 X (x0 :: x1 :: x2 :: x3 :: x4 :: y0 :: y1 :: L) w) : St w0 X (y0 :: y1 :: x0 :: x1 :: x2 :: x3 :: x4 :: L) w := h.perm (by rw [show x0 :: x1 :: x2 :: x3 :: x4 :: y0 :: y1 :: L = ([x0, x1, x2, x3, x4] ++ [y0, y1]) ++ L from rfl, show y0 :: y1 :: x0 :: x1 :: x2 :: x3 :: x4 :: L = ([y0, y1] ++ [x0, x1, x2, x3, x4]) ++ L from rfl]; exact List.Perm.append_right L List.perm_append_comm)
theorem St.u26 {x0 x1 x2 x3 x4 x5 y0 y1 : At} (h : St w0 X (x0 :: x1 :: x2 :: x3 :: x4 :: x5 :: y0 :: y1 :: L) w) : St w0 X (y0 :: y1 :: x0 :: x1 :: x2 :: x3 :: x4 :: x5 :: L) w := h.perm (by rw [show x0 :: x1 :: x2 :: x3 :: x4 :: x5 :: y0 :: y1 :: L = ([x0, x1, x2, x3, x4, x5] ++ [y0, y1]) ++ L from rfl, show y0 :: y1 :: x0 :: x1 :: x2 :: x3 :: x4 :: x5 :: L = ([y0, y1] ++ [x0, x1, x2, x3, x4, x5]) ++ L from rfl]; exact List.Perm.append_right L List.perm_append_comm)
theorem St.u31 {x0 y0 y1 y2 : At} (h : St w0 X (x0 :: y0 :: y1 :: y2 :: L) w) : St w0 X (y0 :: y1 :: y2 :: x0 :: L) w := h.perm (by rw [show x0 :: y0 :: y1 :: y2 :: L = ([x0] ++ [y0, y1, y2]) ++ L from rfl, show y0 :: y1 :: y2 :: x0 :: L = ([y0, y1, y2] ++ [x0]) ++ L from rfl]; exact List.Perm.append_right L List.perm_append_comm)
theorem St.u32 {x0 x1 y0 y1 y2 : At} (h : St w0 X (x0 :: x1 :: y0 :: y1 :: y2 :: L) w) : St w0 X (y0 :: y1 :: y2 :: x0 :: x1 :: L) w := h.perm (by rw [show x0 :: x1 :: y0 :: y1 :: y2 :: L = ([x0, x1] ++ [y0, y1, y2]) ++ L from rfl, show y0 :: y1 :: y2 :: x0 :: x1 :: L = ([y0, y1, y2] ++ [x0, x1]) ++ L from rfl]; exact List.Perm.append_right L List.perm_append_comm)
theorem St.u33 {x0 x1 x2 y0 y1 y2 : At} (h : St w0 X (x0 :: x1 :: x2 :: y0 :: y1 :: y2 :: L) w) : St w0 X (y0 :: y1 :: y2 :: x0 :: x1 :: x2 :: L) w := h.perm (by rw [show x0 :: x1 :: x2 :: y0 :: y1 :: y2 :: L = ([x0, x1, x2] ++ [y0, y1, y2]) ++ L from rfl, show y0 :: y1 :: y2 :: x0 :: x1 :: x2 :: L = ([y0, y1, y2] ++ [x0, x1, x2]) ++ L from rfl]; exact List.Perm.append_right L List.perm_append_comm)
theorem St.u34 {x0 x1 x2 x3 y0 y1 y2 : At} (h : St w0 X (x0 :: x1 :: x2 :: x3 :: y0 :: y1 :: y2 :: L) w) : St w0 X (y0 :: y1 :: y2 :: x0 :: x1 :: x2 :: x3 :: L) w := h.perm (by rw [show x0 :: x1 :: x2 :: x3 :: y0 :: y1 :: y2 :: L = ([x0, x1, x2, x3] ++ [y0, y1, y2]) ++ L from rfl, show y0 :: y1 :: y2 :: x0 :: x1 :: x2 :: x3 :: L = ([y0, y1, y2] ++ [x0, x1, x2, x3]) ++ L from rfl]; exact List.Perm.append_right L List.perm_append_comm)
theorem St.u35 {x0 x1 x2 x3 x4 y0 y1 y2 : At} (h : St w0 X (x0 :: x1 :: x2 :: x3 :: x4 :: y0 :: y1 :: y2 :: L) w) : St w0 X (y0 :: y1 :: y2 :: x0 :: x1 :: x2 :: x3 :: x4 :: L) w := h.perm (by rw [show x0 :: x1 :: x2 :: x3 :: x4 :: y0 :: y1 :: y2 :: L = ([x0, x1, x2, x3, x4] ++ [y0, y1, y2]) ++ L from rfl, show y0 :: y1 :: y2 :: x0 :: x1 :: x2 :: x3 :: x4 :: L = ([y0, y1, y2] ++ [x0, x1, x2, x3, x4]) ++ L from rfl]; exact List.Perm.append_right L List.perm_append_comm)
theorem St.u36 {x0 x1 x2 x3 x4 x5 y0 y1 y2 : At} (h : St w0 X (x0 :: x1 :: x2 :: x3 :: x4 :: x5 :: y0 :: y1 :: y2 :: L) w) : St w0 X (y0 :: y1 :: y2 :: x0 :: x1 :: x2 :: x3 :: x4 :: x5 :: L) w := h.perm (by rw [show x0 :: x1 :: x2 :: x3 :: x4 :: x5 :: y0 :: y1 :: y2 :: L = ([x0, x1, x2, x3, x4, x5] ++ [y0, y1, y2]) ++ L from rfl, show y0 :: y1 :: y2 :: x0 :: x1 :: x2 :: x3 :: x4 :: x5 :: L = ([y0, y1, y2] ++ [x0, x1, x2, x3, x4, x5]) ++ L from rfl]; exact List.Perm.append_right L List.perm_append_comm)
theorem St.u41 {x0 y0 y1 y2 y3 : At} (h : St w0 X (x0 :: y0 :: y1 :: y2 :: y3 :: L) w) : St w0 X (y0 :: y1 :: y2 :: y3 :: x0 :: L) w := h.perm (by rw [show x0 :: y0 :: y1 :: y2 :: y3 :: L = ([x0] ++ [y0, y1, y2, y3]) ++ L from rfl, show y0 :: y1 :: y2 :: y3 :: x0 :: L = ([y0, y1, y2, y3] ++ [x0]) ++ L from rfl]; exact List.Perm.append_right L List.perm_append_comm)
theorem St.u42 {x0 x1 y0 y1 y2 y3 : At} (h : St w0 X (x0 :: x1 :: y0 :: y1 :: y2 :: y3 :: L) w) : St w0 X (y0 :: y1 :: y2 :: y3 :: x0 :: x1 :: L) w := h.perm (by rw [show x0 :: x1 :: y0 :: y1 :: y2 :: y3 :: L = ([x0, x1] ++ [y0, y1, y2, y3]) ++ L from rfl, show y0 :: y1 :: y2 :: y3 :: x0 :: x1 :: L = ([y0, y1, y2, y3] ++ [x0, x1]) ++ L from rfl]; exact List.Perm.append_right L List.perm_append_comm)
theorem St.u43 {x0 x1 x2 y0 y1 y2 y3 : At} (h : St w0 X (x0 :: x1 :: x2 :: y0 :: y1 :: y2 :: y3 :: L) w) : St w0 X (y0 :: y1 :: y2 :: y3 :: x0 :: x1 :: x2 :: L) w := h.perm (by rw [show x0 :: x1 :: x2 :: y0 :: y1 :: y2 :: y3 :: L = ([x0, x1, x2] ++ [y0, y1, y2, y3]) ++ L from rfl, show y0 :: y1 :: y2 :: y3 :: x0 :: x1 :: x2 :: L = ([y0, y1, y2, y3] ++ [x0, x1, x2]) ++ L from rfl]; exact List.Perm.append_right L List.perm_append_comm)
theorem St.u44 {x0 x1 x2 x3 y0 y1 y2 y3 : At} (h : St w0 X (x0 :: x1 :: x2 :: x3 :: y0 :: y1 :: y2 :: y3 :: L) w) : St w0 X (y0 :: y1 :: y2 :: y3 :: x0 :: x1 :: x2 :: x3 :: L) w := h.perm (by rw [show x0 :: x1 :: x2 :: x3 :: y0 :: y1 :: y2 :: y3 :: L = ([x0, x1, x2, x3] ++ [y0, y1, y2, y3]) ++ L from rfl, show y0 :: y1 :: y2 :: y3 :: x0 :: x1 :: x2 :: x3 :: L = ([y0, y1, y2, y3] ++ [x0, x1, x2, x3]) ++ L from rfl]; exact List.Perm.append_right L List.perm_append_comm)
theorem St.u45 {x0 x1 x2 x3 x4 y0 y1 y2 y3 : At} (h : St w0 X (x0 :: x1 :: x2 :: x3 :: x4 :: y0 :: y1 :: y2 :: y3 :: L) w) : St w0 X (y0 :: y1 :: y2 :: y3 :: x0 :: x1 :: x2 :: x3 :: x4 :: L) w := h.perm (by rw [show x0 :: x1 :: x2 :: x3 :: x4 :: y0 :: y1 :: y2 :: y3 :: L = ([x0, x1, x2, x3, x4] ++ [y0, y1, y2, y3]) ++ L from rfl, show y0 :: y1 :: y2 :: y3 :: x0 :: x1 :: x2 :: x3 :: x4 :: L = ([y0, y1, y2, y3] ++ [x0, x1, x2, x3, x4]) ++ L from rfl]; exact List.Perm.append_right L List.perm_append_comm)
theorem St.u46 {x0 x1 x2 x3 x4 x5 y0 y1 y2 y3 : At} (h : St w0 X (x0 :: x1 :: x2 :: x3 :: x4 :: x5 :: y0 :: y1 :: y2 :: y3 :: L) w) : St w0 X (y0 :: y1 :: y2 :: y3 :: x0 :: x1 :: x2 :: x3 :: x4 :: x5 :: L) w := h.perm (by rw [show x0 :: x1 :: x2 :: x3 :: x4 :: x5 :: y0 :: y1 :: y2 :: y3 :: L = ([x0, x1, x2, x3, x4, x5] ++ [y0, y1, y2, y3]) ++ L from rfl, show y0 :: y1 :: y2 :: y3 :: x0 :: x1 :: x2 :: x3 :: x4 :: x5 :: L = ([y0, y1, y2, y3] ++ [x0, x1, x2, x3, x4, x5]) ++ L from rfl]; exact List.Perm.append_right L List.perm_append_comm)
end
section
variable {P : Program} {w0 w : World} {X : List Nat} {L : List At} {o : Oper} {a : Act} {G : Value → World → Prop}
/-- As 'soo', at an address with an equation; the new cells by an equation. -/
theorem sooe (k : Nat) (hs : St w0 X L w) {ty : TypeId} {x y : Operand} (ho : o.op = .store ty x y) {g off i o' : Nat} (hx : a.eval x = .pointer (some ⟨g, o', none⟩)) {s n c : Nat} {xs ys : List Value} (hk : L[k]? = some (.own s (some g) (some ⟨g, off, none⟩) n c xs)) {v : Value} (hy : a.eval y = v) (h1 : v.oneCell' = true) (hi : (P.info? ty).map (·.size) = some 1) (he : o' = off + i) (hl : i < xs.length) (hys : xs.set i v = ys)
    (h : ∀ w', St w0 X (L.set k (.own s (some g) (some ⟨g, off, none⟩) n c ys)) w' → G undef w') : Hv.Gives P o a w G := by
  subst he hys
  exact soo k hs ho hx hk hy h1 hi hl h
/-- As 'so'; the new cells by an equation. -/
theorem soq (k : Nat) (hs : St w0 X L w) {ty : TypeId} {x y : Operand} (ho : o.op = .store ty x y) {g i : Nat} (hx : a.eval x = .pointer (some ⟨g, i, none⟩)) {t : TypeId} {l ys : List Value} (hk : L[k]? = some (.blk g t l)) {v : Value} (hy : a.eval y = v) (h1 : v.oneCell' = true) (hi : (P.info? ty).map (·.size) = some 1) (hl : i < l.length) (hys : l.set i v = ys)
    (h : ∀ w', St w0 X (L.set k (.blk g t ys)) w' → G undef w') : Hv.Gives P o a w G := by
  subst hys
  exact so k hs ho hx hk hy h1 hi hl h
/-- Several cells into a slice of one's own. -/
theorem soae (k : Nat) (hs : St w0 X L w) {ty : TypeId} {x y : Operand} (ho : o.op = .store ty x y) {g off i o' : Nat} (hx : a.eval x = .pointer (some ⟨g, o', none⟩)) {s n c : Nat} {xs ys vs : List Value} (hk : L[k]? = some (.own s (some g) (some ⟨g, off, none⟩) n c xs)) (hy : a.eval y = .agg vs.toArray) (h1 : ∀ v ∈ vs, v.oneCell' = true) (hi : (P.info? ty).map (·.size) = some vs.length) (h0 : 0 < vs.length) (he : o' = off + i) (hl : i + vs.length ≤ xs.length) (hys : xs.take i ++ vs ++ xs.drop (i + vs.length) = ys)
    (h : ∀ w', St w0 X (L.set k (.own s (some g) (some ⟨g, off, none⟩) n c ys)) w' → G undef w') : Hv.Gives P o a w G := by
  subst he hys
  obtain ⟨e1, l, t, hb, hl2⟩ := Ow.sets (hs.hold _ (List.mem_of_getElem? hk)) hl h0
  have hr := run_storeVar_mid (P := P) w g (off + i) ty vs.toArray (hb.there (by simpa using hl2)) (by simpa using hi) (all_oneCell_toArray h1)
  unfold Hv.Gives execOp
  simp only [ho, hx, hy, Instr.storeAt, Instr.sureAddr, Sem.run_bind, Sem.run_pure, Result.andThen_ok, hr]
  exact h _ (St.turnAt k hk hs ((Fr.refl _ w).setCells (by simp [At.owned]) _ _) e1 trivial (by simp [At.owned]) (by simp [At.owned]))
end
/-- What the result variables hold. -/
def resOk (P : Program) (L : List At) (tmps : Array Value) : List ResultVar → List Value → Prop
  | [], [] => True
  | .tmp t :: rs, v :: vs => tmps.getD t undef = v ∧ resOk P L tmps rs vs
  | .cell p ty :: rs, v :: vs => (∃ g xs, tmps.getD p undef = .pointer (some ⟨g, 0, none⟩) ∧ Reads L (some ⟨g, 0, none⟩) xs ∧ (P.underlying ty).map TypeDesc.isRow = some true ∧ (P.info? ty).map (·.size) = some xs.length ∧ v = .agg xs.toArray) ∧ resOk P L tmps rs vs
  | _, _ => False
theorem run_loadVar_reads {P : Program} {w0 w : World} {X : List Nat} {L : List At} (hs : St w0 X L w) {g : Nat} {ty : TypeId} {xs : List Value} (hr : Reads L (some ⟨g, 0, none⟩) xs) (hd : (P.underlying ty).map TypeDesc.isRow = some true) (hi : (P.info? ty).map (·.size) = some xs.length) : (loadVar ty ⟨g, 0, none⟩).run P w = .ok (.agg xs.toArray) w := by
  cases hu : P.underlying ty with
  | none => simp [hu] at hd
  | some d =>
    simp only [hu, Option.map_some, Option.some.injEq] at hd
    have hc : w.rangeAt g 0 xs := fun j v hv => hr.cell j hv w hs.hold
    have h := run_loadAt_mid (P := P) w g 0 ty xs d hc hu hd hi
    simpa [Instr.loadAt, Instr.sureAddr] using h
def resF (tmps : Array Value) : ResultVar → Sem Value
  | .tmp t => pure (tmps.getD t undef)
  | .cell a t => do loadVar t (← asAddr (tmps.getD a undef))
theorem run_results {P : Program} {w0 w : World} {X : List Nat} {L : List At} (hs : St w0 X L w) {fn : Func} {tmps : Array Value} {rs : List ResultVar} {vs : List Value} (hr : fn.results = rs.toArray) (h : resOk P L tmps rs vs) (h2 : 2 ≤ vs.length) : (results fn tmps).run P w = .ok (.tuple vs.toArray) w := by
  have key : ∀ (rs : List ResultVar) (vs : List Value), resOk P L tmps rs vs → (rs.mapM (resF tmps)).run P w = .ok vs w := by
    intro rs
    induction rs with
    | nil =>
      intro vs h
      cases vs with
      | nil => simp
      | cons v vs => simp [resOk] at h
    | cons r rs ih =>
      intro vs h
      cases vs with
      | nil => cases r <;> simp [resOk] at h
      | cons v vs =>
        cases r with
        | tmp t =>
          obtain ⟨h1, h2⟩ := h
          have := ih vs h2
          simp only [List.mapM_cons, Sem.run_bind, Sem.run_pure, Result.andThen_ok, this, h1, resF]
        | cell p ty =>
          obtain ⟨⟨g, xs, h1, h3, h4, h5, rfl⟩, h2⟩ := h
          have := ih vs h2
          simp only [List.mapM_cons, Sem.run_bind, Sem.run_pure, Result.andThen_ok, this, h1, resF, asAddr, run_loadVar_reads hs h3 h4 h5]
  have hk := key rs vs h
  have e : results fn tmps = (do
      let vs ← fn.results.mapM (resF tmps)
      pure (if h : vs.size = 1 then vs[0] else .tuple vs)) := rfl
  rw [e, hr]
  simp only [Sem.run_bind]
  have e2 : Sem.run P (Array.mapM (resF tmps) rs.toArray) w = .ok vs.toArray w := by
    rw [List.mapM_toArray, map_eq_pure_bind, Sem.run_bind, hk]
    simp
  rw [e2]
  simp only [Result.andThen_ok, Sem.run_pure, List.size_toArray, dif_neg (show ¬ vs.length = 1 by omega)]
/-- The end of a function whose result variables lie in memory, or in slots. -/
theorem ret {P : Program} {w0 w : World} {X : List Nat} {L : List At} (hs : St w0 X L w) {fn : Func} {R : Ending → World → Prop} {a : Act} {rs : List ResultVar} (vs : List Value) (hr : fn.results = rs.toArray) (h : resOk P L a.tmps rs vs) (h2 : 2 ≤ vs.length) (hdf : a.defers = []) (hR : R (.returned (.tuple vs.toArray)) w) : bodyPost P fn R .ret a w :=
  bodyPost_ret (run_results hs hr h h2) hdf hR
theorem resRow {P : Program} {L : List At} {tmps : Array Value} {p : Tmp} {g : Nat} {ty : TypeId} {xs : List Value} (h1 : tmps.getD p undef = .pointer (some ⟨g, 0, none⟩)) (hr : Reads L (some ⟨g, 0, none⟩) xs) (hd : (P.underlying ty).map TypeDesc.isRow = some true) (hi : (P.info? ty).map (·.size) = some xs.length) : ∃ g xs', tmps.getD p undef = .pointer (some ⟨g, 0, none⟩) ∧ Reads L (some ⟨g, 0, none⟩) xs' ∧ (P.underlying ty).map TypeDesc.isRow = some true ∧ (P.info? ty).map (·.size) = some xs'.length ∧ Value.agg xs.toArray = .agg xs'.toArray := ⟨g, xs, h1, hr, hd, hi, rfl⟩
theorem St.dup {w0 w : World} {X : List Nat} {L : List At} {A : Option Addr} {xs : List Value} (hs : St w0 X L w) (hm : At.rd A xs ∈ L) : St w0 X (.rd A xs :: L) w := hs.addRd (hs.hold _ hm) fun b hb => hs.sep _ hm b hb
section
variable {P : Program} {w0 w : World} {X : List Nat} {L : List At} {o : Oper} {a : Act} {G : Value → World → Prop}
theorem run_copy_rows (w : World) (dT sT ty elem : TypeId) (g o dLen dCap : Nat) (a : Addr) (sLen sCap s : Nat) (cur : Array Value) (t : TypeId) (cs : List Value)
    (hu : P.underlying dT = some (.slice elem)) (hs : (P.info? elem).map (·.size) = some s)
    (hg : w.heap[g]? = some (.cells cur t (0, 0))) (hn : cs.length = Nat.min sLen dLen * s)
    (hsrc : ∀ j v, cs[j]? = some v → w.cell? (a.add j) = some v) (hfit : o + cs.length ≤ cur.size) (h1 : ∀ v ∈ cs, v.oneCell' = true) :
    (Builtin.copy_ #[dT, sT] ty #[.slice (some ⟨g, o, none⟩) dLen dCap, .slice (some a) sLen sCap]).run P w =
      .ok (goInt (Nat.min sLen dLen)) (w.setRow g (cur.toList.take o ++ cs ++ cur.toList.drop (o + cs.length)).toArray) := by
  have hl := run_loadCells_list (P := P) w a cs hsrc
  have hst := run_storeCells_at P g o t cs 0 cur w hg (by simpa using hfit) h1
  rw [hn] at hl
  cases hq : P.info? elem with
  | none => simp [hq] at hs
  | some i =>
    have hi : i.size = s := by simpa [hq] using hs
    simp [Builtin.copy_, run_underlying hu, Builtin.lenOf, Builtin.firstCells, sizeOf, typeInfo, hq, hi, hl, hst]
/-- copy of elements of several cells into a block of one's own (the source may lie in the same block). -/
theorem cpr (k : Nat) (hs : St w0 X L w) {x y : Operand} {t u e : TypeId} (ho : o.op = .call { callee := .builtin .copy, args := #[x, y], argTypes := #[t, u] })
    {g off n c m cy s : Nat} {B : Option Addr} (hx : a.eval x = .slice (some ⟨g, off, none⟩) n c) (hy : a.eval y = .slice B m cy) {te : TypeId} {l : List Value} (hk : L[k]? = some (.blk g te l)) {ys : List Value} (hr : Reads L B ys)
    (ht : P.underlying t = some (.slice e)) (hi : (P.info? e).map (·.size) = some s) (h1 : ∀ v ∈ ys, v.oneCell' = true) (hm : ys.length = m * s) (hl : off + n * s ≤ l.length) (_hn0 : 0 < n) (hm0 : 0 < m) (hs0 : 0 < s) {q : Nat} (hq : Nat.min m n = q) {l2 : List Value} (hl2 : l.take off ++ (ys.take (q * s) ++ l.drop (off + q * s)) = l2)
    (h : ∀ (w' : World), St w0 X (L.set k (.blk g te l2)) w' → G (.int .i64 q) w') : Hv.Gives P o a w G := by
  subst hl2
  have hb : Blk w g l te := hs.hold _ (List.mem_of_getElem? hk)
  have hqm : q ≤ m := by rw [← hq]; exact Nat.min_le_left _ _
  have hqn : q ≤ n := by rw [← hq]; exact Nat.min_le_right _ _
  have hqs : q * s ≤ m * s := Nat.mul_le_mul_right _ hqm
  have hqs2 : q * s ≤ n * s := Nat.mul_le_mul_right _ hqn
  have hlen : (ys.take (q * s)).length = q * s := by rw [List.length_take, hm]; omega
  have hne : ys ≠ [] := by
    intro h
    rw [h] at hm
    have := Nat.mul_pos hm0 hs0
    simp at hm; omega
  obtain ⟨g2, o2, rfl, _, hc2⟩ := (hr w hs.hold).cells hne
  have hrun := run_copy_rows (P := P) w t u o.type e g off n c ⟨g2, o2, none⟩ m cy s l.toArray te (ys.take (q * s)) ht hi hb (by rw [hlen, hq])
    (fun j v hv => by
      have hj := (List.getElem?_eq_some_iff.1 hv).1
      rw [List.getElem?_take_of_lt (by omega)] at hv
      rw [Addr.add_lit, hc2 j (by omega)]; exact hv)
    (by simp only [List.size_toArray]; omega) (fun v hv => h1 v (List.mem_of_mem_take hv))
  unfold Hv.Gives execOp
  simp only [ho, resolve, invoke, builtin, Sem.run_bind, Sem.run_pure, Result.andThen_ok, List.map_toArray, List.map_cons, List.map_nil, hx, hy, hrun]
  rw [hq]
  refine h _ ?_
  refine St.turnAt k hk hs ⟨rfl, rfl, rfl, by simp [World.setRow], fun b _ hX => setRow_other w g b _ (by simpa [At.owned] using hX)⟩ ?_ trivial (by simp [At.owned]) (by simp [At.owned])
  have e := setRow_heap w g l.toArray ((l.take off ++ (ys.take (q * s) ++ l.drop (off + (ys.take (q * s)).length))).toArray) te (0, 0) hb
  rw [← List.append_assoc] at e ⊢
  rw [hlen] at e ⊢
  exact e
end
end Se
end Go.Proofs.Ytgpbmohfgjmpkaa

/- Layer 36: the receiver's methods beside other pieces; literal slices of one row. No condition but Go's own limits. -/
import Derived.Test.YtdngfcmakjlamaaStrNext
import Derived.Test.YtdngfcmakjlamaaStrJoin
set_option linter.unusedSimpArgs false
set_option linter.unusedVariables false
namespace Go.Proofs.Ytdngfcmakjlamaa
open Go Go.RowKit
namespace Se
open Li (Blk Rd Fr)
section
variable {P : Program} {w0 w : World} {X : List Nat} {L : List At} {o : Oper} {a : Act} {G : Value → World → Prop}
theorem foldl_set (off : Nat) (xs : List Value) : ∀ (k : Nat) (cs : Array Value), off + k + xs.length ≤ cs.size → ((xs.zipIdx k).foldl (fun cs (p : Value × Nat) => cs.setIfInBounds (off + p.2) p.1) cs).toList = cs.toList.take (off + k) ++ xs ++ cs.toList.drop (off + k + xs.length) := by
 induction xs with
 | nil => intro k cs h; simp
 | cons x xs ih =>
  intro k cs h
  have e : ((x :: xs).zipIdx k).foldl (fun cs (p : Value × Nat) => cs.setIfInBounds (off + p.2) p.1) cs = (xs.zipIdx (k + 1)).foldl (fun cs (p : Value × Nat) => cs.setIfInBounds (off + p.2) p.1) (cs.setIfInBounds (off + k) x) := by simp
  rw [e, ih (k + 1) _ (by simp at h ⊢; omega)]
  simp only [Array.toList_setIfInBounds]
  have := list_seg_step cs.toList (off + k) x xs (by simp at h ⊢; omega)
  rw [← Nat.add_assoc, this]
  simp [Nat.add_assoc]
theorem fill_row {s : Nat} {cs0 : Array Value} (h0 : cs0.size = s) {xs : List Value} (hx : xs.length = s) : Instr.fill (fun i => some (i * s, s)) cs0 [(0, .agg xs.toArray)] = some xs.toArray := by
 have e := foldl_set (0 * s) xs 0 cs0 (by omega)
 rw [Nat.zero_mul, Nat.add_zero, List.take_zero, List.nil_append, Nat.zero_add, List.drop_eq_nil_of_le (by simp; omega), List.append_nil] at e
 simp only [Instr.fill, Value.cells, Nat.zero_mul, Nat.zero_add] at e ⊢
 rw [if_neg (by simp; omega)]
 have e3 : xs.toArray.zipIdx = xs.zipIdx.toArray := by apply Array.toList_inj.1; simp
 rw [e3, List.foldl_toArray]
 congr 1
 apply Array.toList_inj.1
 exact e
/-- A literal slice of one element of several cells. -/
theorem bs1 (hs : St w0 X L w) {ty : TypeId} {x : Operand} (ho : o.op = .buildSlice ty 1 #[(0, x)]) {e : TypeId} (ht : P.underlying ty = some (.slice e)) {z : Value} {s b : Nat} (hi : (P.info? e).map (fun i => (i.zero, i.size, i.bytes)) = some (some z, s, b)) (hb : s ≤ 16777216) (h0 : s ≠ 0) {xs : List Value} (hx : a.eval x = .agg xs.toArray) (hl : xs.length = s)
  (h : ∀ (w' : World) (g : Nat), g = w.heap.size → St w0 X (.blk g e xs :: L) w' → G (.slice (some ⟨g, 0, none⟩) 1 1) w') : Hv.Gives P o a w G := by
 refine bs hs ho ht (z := z) (s := s) ?_ (by omega) (by omega) (cs := xs.toArray) ?_ h
 ·cases hq : P.info? e with
  | none => simp [hq] at hi
  | some i =>
   simp [hq] at hi ⊢
   exact ⟨hi.1, hi.2.1⟩
 ·simp only [List.map_toArray, List.map_cons, List.map_nil, hx]
  exact fill_row (by simp) hl
end
end Se
namespace Sr
open Pd (Fm PDU meas dec framed pc iv fl fv encE)
open Se (St At Reads Cell)
open Li (v8 v8_one Rd Blk Fr)
open Bv (n8 n16 n32 n64)
variable {w0 w : World} {X : List Nat} {L : List At} {s s' : Rc} {g c : Nat} {B : Option Addr} {r : Option Nat}
attribute [local irreducible] Calls
theorem pdu_i : (Try.prog.info? 41).map (fun i => (i.zero, i.size, i.bytes)) = some (some (.agg (pc {} none 0 0 none 0 0).toArray), 14, 88) := by kernel_rfl
theorem pdu_z : (Value.agg (pc {} none 0 0 none 0 0).toArray).cells.size = 14 := by kernel_rfl
theorem mid2 (M : List At) {a b : At} : (M ++ (a :: b :: L)).Perm (a :: b :: (M ++ L)) := List.perm_middle.trans (List.Perm.cons _ List.perm_middle)
theorem mid1 (M : List At) {a : At} : (M ++ (a :: L)).Perm (a :: (M ++ L)) := List.perm_middle
theorem new_yes (hs : St w0 X L w) (f : Fm) (m : Nat) (h : fits f (m : Int) = true) : Calls Try.prog 10 #[fv f, .int .i64 (m : Int)] w fun e w' => ∃ g, e = .returned (.tuple #[.pointer (some ⟨g, 0, none⟩), iv 0]) ∧ St w0 X (pR g { f := f, mo := m } none 0 :: pO none none 0 { f := f, mo := m } :: L) w' := by
 refine (new_st hs f (m : Int)).mono ?_
 rintro e w' (⟨h1, _, _⟩ | ⟨_, g, m', h2, h3, h4⟩)
 ·rw [h] at h1; cases h1
 ·obtain rfl : m = m' := by omega
  exact ⟨g, h3, h4⟩
theorem new_no (hs : St w0 X L w) (f : Fm) (mo : Int) (h : fits f mo = false) : Calls Try.prog 10 #[fv f, .int .i64 mo] w fun e w' => e = .returned (.tuple #[.pointer none, iv 2]) ∧ St w0 X L w' := by
 refine (new_st hs f mo).mono ?_
 rintro e w' (⟨_, h2, h3⟩ | ⟨h1, _⟩)
 ·exact ⟨h2, h3⟩
 ·rw [h] at h1; cases h1
theorem add_m (M : List At) (hs : St w0 X (M ++ pR g s B c :: pO r B c s :: L) w) (hm : s.mo ≠ 0) (x : List (BitVec 8)) {A : Option Addr} {n cx : Nat} (hn : n = x.length) (hx : Reads (M ++ L) A (x.map v8)) (hl : s.b.length ≤ 4194304) (hnl : n ≤ 70368744177664) {e : Nat} (hr : addE s x = (s', e)) :
  Calls Try.prog 11 #[.pointer (some ⟨g, 0, none⟩), .slice A n cx] w fun e' w' => ∃ r' B' c', e' = .returned (iv e) ∧ St w0 X (M ++ pR g s' B' c' :: pO r' B' c' s' :: L) w' := by
 refine (add_st (hs.perm (mid2 M)) hm x hn hx hl hnl hr).mono ?_
 rintro e' w' ⟨r', B', c', h1, h2⟩
 exact ⟨r', B', c', h1, h2.perm (mid2 M).symm⟩
theorem next_m (M : List At) (hs : St w0 X (M ++ pR g s B c :: pO r B c s :: L) w) (hmo : s.mo ≠ 0) (hl : s.b.length ≤ 4194304) (hnb : s.nb + s.b.length ≤ 70368744177664) (hnp : s.np ≤ 70368744177664) {p : PDU} {e : Nat} (hr : nextE s = (s', p, e)) :
  Calls Try.prog 19 #[.pointer (some ⟨g, 0, none⟩)] w fun e' w' => ∃ r1 EA ec r2 DA dc PC r' B' c', e' = .returned (.tuple #[.agg PC.toArray, iv e]) ∧ Hid (PC = pc p.h EA p.en.length ec DA p.da.length dc) ∧ St w0 X (.own 1 r1 EA p.en.length ec (p.en.map v8) :: .own 1 r2 DA p.da.length dc (p.da.map v8) :: (M ++ pR g s' B' c' :: pO r' B' c' s' :: L)) w' := by
 refine (next_st (hs.perm (mid2 M)) hmo hl hnb hnp hr).mono ?_
 rintro e' w' ⟨r1, EA, ec, r2, DA, dc, PC, r', B', c', h1, h2, h3⟩
 exact ⟨r1, EA, ec, r2, DA, dc, PC, r', B', c', h1, h2, h3.perm (List.Perm.cons _ (List.Perm.cons _ (mid2 M).symm))⟩
theorem held_m (M : List At) (hs : St w0 X (M ++ pR g s B c :: L) w) {n : Nat} (hn : s.b.length = n) : Calls Try.prog 20 #[.pointer (some ⟨g, 0, none⟩)] w fun e w' => e = .returned (iv n) ∧ St w0 X (M ++ pR g s B c :: L) w' := by
 subst hn
 refine (held_st (hs.perm (mid1 M))).mono ?_
 rintro e w' ⟨h1, h2⟩
 exact ⟨h1, h2.perm (mid1 M).symm⟩
theorem consumed_m (M : List At) (hs : St w0 X (M ++ pR g s B c :: L) w) {a b : Nat} (ha : s.nb = a) (hb : s.np = b) : Calls Try.prog 18 #[.pointer (some ⟨g, 0, none⟩)] w fun e w' => e = .returned (.tuple #[iv a, iv b]) ∧ St w0 X (M ++ pR g s B c :: L) w' := by
 subst ha hb
 refine (consumed_st (hs.perm (mid1 M))).mono ?_
 rintro e w' ⟨h1, h2⟩
 exact ⟨h1, h2.perm (mid1 M).symm⟩
theorem reframe_m (M : List At) (hs : St w0 X (M ++ pR g s B c :: pO r B c s :: L) w) (hm : s.mo ≠ 0) (f : Fm) {e : Nat} (hr : refE s f = (s', e)) : Calls Try.prog 27 #[.pointer (some ⟨g, 0, none⟩), fv f] w fun e' w' => e' = .returned (iv e) ∧ St w0 X (M ++ pR g s' B c :: pO r B c s' :: L) w' := by
 refine (reframe_st (hs.perm (mid2 M)) hm f hr).mono ?_
 rintro e' w' ⟨h1, h2⟩
 refine ⟨h1, ?_⟩
 have hb : s'.b = s.b := by
  unfold refE at hr
  repeat' split at hr
  all_goals (cases hr; rfl)
 have h3 := h2.perm (mid2 M).symm
 unfold pO at h3 ⊢
 rw [hb]
 exact h3
theorem copy_m (M : List At) (hs : St w0 X (M ++ pR g s B c :: pO r B c s :: L) w) (hm : s.mo ≠ 0) (hl : s.b.length ≤ 4194304) :
  Calls Try.prog 25 #[.pointer (some ⟨g, 0, none⟩)] w fun e w' => ∃ g' r' B' c', e = .returned (.pointer (some ⟨g', 0, none⟩)) ∧ St w0 X (pR g' s B' c' :: pO r' B' c' s :: (M ++ pR g s B c :: pO r B c s :: L)) w' := by
 refine (copy_st (hs.perm (mid2 M)) hm hl (Reads.own 0 rfl)).mono ?_
 rintro e' w' ⟨g', r', B', c', h1, h2⟩
 exact ⟨g', r', B', c', h1, h2.perm (List.Perm.cons _ (List.Perm.cons _ (mid2 M).symm))⟩
end Sr
end Go.Proofs.Ytdngfcmakjlamaa


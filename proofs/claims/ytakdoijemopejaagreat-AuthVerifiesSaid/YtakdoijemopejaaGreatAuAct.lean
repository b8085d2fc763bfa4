/- Opening a step that layer 38's laws take. No condition. -/
import Derived.Test.YtakdoijemopejaaGreatAuOpen
set_option linter.unusedSimpArgs false
set_option linter.unusedVariables false
namespace Go.Proofs.YtakdoijemopejaaGreat
open Go Go.ChangeShapes Go.WideShapes Go.ChangeAt Go.RowKit
namespace Au
open Li (v8 Rd)
open Bv (n8 n16 n32 n64)
def acl (kind : Int) (N : Bs) (seq : BitVec 32) (q : BitVec 16) (B : Option Addr) (n c : Nat) (both : Bool) : List Value := .int .i64 kind :: (N.map v8 ++ [.int .u32 (n32 seq), .int .u16 (n16 q), .slice B n c, .bool both])
theorem acl_33 {kind : Int} {N : Bs} (hN : N.length = 32) {seq : BitVec 32} {q : BitVec 16} {B : Option Addr} {n c : Nat} {both : Bool} : (acl kind N seq q B n c both)[33]? = some (.int .u32 (n32 seq)) ∧ (acl kind N seq q B n c both)[34]? = some (.int .u16 (n16 q)) ∧ (acl kind N seq q B n c both)[35]? = some (.slice B n c) ∧ (acl kind N seq q B n c both)[36]? = some (.bool both) ∧ (acl kind N seq q B n c both).length = 37 ∧ ((acl kind N seq q B n c both).drop 1).take 32 = N.map v8 := by
 unfold acl
 refine ⟨?_, ?_, ?_, ?_, by simp [hN], ?_⟩
 all_goals simp [List.getElem?_append, hN, List.take_append]
section
variable {H : Type} {enc : TypeId × Value → H} {W : World} {r : Reach} {base : Nat} {v : Value} {d : DataW H} {p : List MemPlace}
set_option maxRecDepth 100000 in
set_option maxHeartbeats 4000000 in
theorem act_cells {fuel : Nat} {cs : List Value} {x : DataW H × List MemPlace} (hf : DataW.trod enc Tryz.prog W 0 (fun _ => true) true fuel 38 cs = some x) :
  ∃ (kind : Int) (N : Bs) (seq : BitVec 32) (q : BitVec 16) (B : Option Addr) (n c : Nat) (both : Bool) (b : Bs), cs = acl kind N seq q B n c both ∧ N.length = 32 ∧ n = b.length ∧ Rd W B (b.map v8) := by
 obtain ⟨xs, m, _, _, hl, hxl, hx⟩ := DataW.trod_struct Tryz.underlying38 hf
 rw [show Tryz.prog.cellsOf 38 = 37 by kernel_rfl] at hl
 have hxl' : xs.length = 6 := hxl
 obtain ⟨c0, cs, rfl⟩ := List.exists_cons_of_length_eq_add_one hl
 simp only [List.length_cons, Nat.reduceEqDiff] at hl
 obtain ⟨ms, ts, hms, rfl⟩ : ∃ ms ts, ms.length = 32 ∧ cs = ms ++ ts := ⟨cs.take 32, cs.drop 32, by simp; omega, (List.take_append_drop _ _).symm⟩
 have hl2 : ts.length = 4 := by simp [hms] at hl; omega
 obtain ⟨c1, ts, rfl⟩ := List.exists_cons_of_length_eq_add_one hl2
 simp only [List.length_cons, Nat.reduceEqDiff] at hl2
 obtain ⟨c2, ts, rfl⟩ := List.exists_cons_of_length_eq_add_one hl2
 simp only [List.length_cons, Nat.reduceEqDiff] at hl2
 obtain ⟨c3, ts, rfl⟩ := List.exists_cons_of_length_eq_add_one hl2
 simp only [List.length_cons, Nat.reduceEqDiff] at hl2
 obtain ⟨c4, ts, rfl⟩ := List.exists_cons_of_length_eq_add_one hl2
 obtain rfl : ts = [] := List.eq_nil_of_length_eq_zero (by simpa using hl2)
 have dk : ∀ (k : Nat) (c : Value), ([c1, c2, c3, c4] : List Value)[k]? = some c → ((c0 :: (ms ++ [c1, c2, c3, c4])).drop (33 + k)).take 1 = [c] := by
  intro k c hk
  rw [show 33 + k = (c0 :: ms).length + k by simp [hms], ← List.cons_append, ← List.drop_drop, List.drop_left]
  match k, hk with
  | 0, hk | 1, hk | 2, hk | 3, hk => simp at hk; subst hk; rfl
 have e0 := fld (t := 3) (c := c0) (hx 0 _ rfl) rfl (by kernel_rfl) rfl
 rw [List.getElem?_eq_getElem (by omega)] at e0
 obtain ⟨z0, h0, _, _⟩ := DataW.trod_int Tryz.underlying3 e0
 obtain rfl : c0 = .int .i64 z0 := by simpa using h0
 have e1 := hx 1 _ rfl
 rw [List.getElem?_eq_getElem (by omega)] at e1
 have f1 := Lift.fit_of (P := Tryz.prog) (ks := List.replicate 32 (some .u8)) 2 (t := 34) (by kernel_rfl) e1
 have g1 : (((.int .i64 z0 : Value) :: (ms ++ [c1, c2, c3, c4])).drop 1).take 32 = ms := by simp [List.take_append, hms]
 obtain ⟨N, hN, hNl⟩ := fit8 32 _ f1
 have hN2 : ms = N.map v8 := by rw [← hN]; exact g1.symm
 have e2 := fld (t := 32) (c := c1) (hx 2 _ rfl) rfl (by kernel_rfl) (dk 0 c1 rfl)
 rw [List.getElem?_eq_getElem (by omega)] at e2
 obtain ⟨z2, h2, _, w2⟩ := DataW.trod_int Tryz.underlying32 e2
 obtain rfl : c1 = .int .u32 z2 := by simpa using h2
 obtain ⟨b2, rfl⟩ := of_u32 w2
 have e3 := fld (t := 33) (c := c2) (hx 3 _ rfl) rfl (by kernel_rfl) (dk 1 c2 rfl)
 rw [List.getElem?_eq_getElem (by omega)] at e3
 obtain ⟨z3, h3, _, w3⟩ := DataW.trod_int Tryz.underlying33 e3
 obtain rfl : c2 = .int .u16 z3 := by simpa using h3
 obtain ⟨b3, rfl⟩ := of_u16 w3
 have e4 := fld (t := 22) (c := c3) (hx 4 _ rfl) rfl (by kernel_rfl) (dk 2 c3 rfl)
 rw [List.getElem?_eq_getElem (by omega)] at e4
 obtain ⟨A4, n4, d4, bs4, h4, g4, r4⟩ := bytes_cell e4
 obtain rfl : c3 = .slice A4 n4 d4 := by simpa using h4
 have e5 := fld (t := 4) (c := c4) (hx 5 _ rfl) rfl (by kernel_rfl) (dk 3 c4 rfl)
 rw [List.getElem?_eq_getElem (by omega)] at e5
 obtain ⟨b5, h5, _⟩ := DataW.trod_bool Tryz.underlying4 e5
 obtain rfl : c4 = .bool b5 := by simpa using h5
 exact ⟨z0, N, b2, b3, A4, n4, d4, b5, bs4, by rw [hN2]; rfl, hNl, g4, r4⟩
set_option maxRecDepth 100000 in
set_option maxHeartbeats 4000000 in
theorem open_act (hv : Value.okWide Tryz.prog W r base 38 v) (h : DataW.Trod enc Tryz.prog W 0 (fun _ => true) true 38 v d p) :
  ∃ (kind : Int) (N : Bs) (seq : BitVec 32) (q : BitVec 16) (B : Option Addr) (n c : Nat) (both : Bool), v = .agg (acl kind N seq q B n c both).toArray ∧ N.length = 32 := by
 obtain ⟨cs, rfl⟩ := row_of (by kernel_rfl) hv
 obtain ⟨fuel, hf⟩ := h
 have hc : (Value.agg cs.toArray).cells.toList = cs := by simp [Value.cells]
 rw [hc] at hf
 obtain ⟨k, N, s, q, B, n, c, b, bs, rfl, h1, _⟩ := act_cells hf
 exact ⟨k, N, s, q, B, n, c, b, rfl, h1⟩
end
end Au
end Go.Proofs.YtakdoijemopejaaGreat

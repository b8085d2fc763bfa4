/- Opening PDU values and framings that layer 35's laws take. No condition. -/
import Derived.Test.YtdngfcmakjlamaaBaseB
import Derived.Test.YtdngfcmakjlamaaPduEq
set_option linter.unusedSimpArgs false
set_option linter.unusedVariables false
namespace Go.Proofs.Ytdngfcmakjlamaa
open Go Go.ChangeShapes Go.WideShapes Go.ChangeAt Go.RowKit
namespace Pd
open Li (v8 Rd)
open Bv (n8 n16 n32 n64)
set_option maxRecDepth 100000 in
set_option maxHeartbeats 4000000 in
theorem of_u8 {z : Int} (h : (Lit.int .u8 z).wf = true) : ∃ b : BitVec 8, z = n8 b := by
 have h : 0 ≤ z ∧ z ≤ 255 := by simpa [Lit.wf, IntKind.min, IntKind.max, IntKind.signed, IntKind.bits] using h
 exact ⟨BitVec.ofInt 8 z, by unfold n8; rw [BitVec.toNat_ofInt]; simp; omega⟩
set_option maxRecDepth 100000 in
set_option maxHeartbeats 4000000 in
theorem of_u16 {z : Int} (h : (Lit.int .u16 z).wf = true) : ∃ b : BitVec 16, z = n16 b := by
 have h : 0 ≤ z ∧ z ≤ 65535 := by simpa [Lit.wf, IntKind.min, IntKind.max, IntKind.signed, IntKind.bits] using h
 exact ⟨BitVec.ofInt 16 z, by unfold n16; rw [BitVec.toNat_ofInt]; simp; omega⟩
set_option maxRecDepth 100000 in
set_option maxHeartbeats 4000000 in
theorem of_u32 {z : Int} (h : (Lit.int .u32 z).wf = true) : ∃ b : BitVec 32, z = n32 b := by
 have h : 0 ≤ z ∧ z ≤ 4294967295 := by simpa [Lit.wf, IntKind.min, IntKind.max, IntKind.signed, IntKind.bits] using h
 exact ⟨BitVec.ofInt 32 z, by unfold n32; rw [BitVec.toNat_ofInt]; simp; omega⟩
section
variable {H : Type} {enc : TypeId × Value → H} {W : World} {r : Reach} {base : Nat} {v : Value} {d : DataW H} {p : List MemPlace}
set_option maxRecDepth 100000 in
set_option maxHeartbeats 4000000 in
theorem bytes_cell {fuel : Nat} {cs : List Value} {x : DataW H × List MemPlace} (hf : DataW.trod enc Try.prog W 0 (fun _ => true) true fuel 24 cs = some x) : ∃ A n c, ∃ bs : List (BitVec 8), cs = [.slice A n c] ∧ n = bs.length ∧ Rd W A (bs.map v8) := by
 rcases open_ints Try.underlying24 Try.underlying5 (by kernel_rfl) hf with ⟨hcs, _⟩ | ⟨x, l, c', zs, hcs, _, hl, hm, hz, _, hcell, hwz⟩
 ·exact ⟨none, 0, 0, [], hcs, rfl, .inl rfl⟩
 ·simp only [if_true] at hz
  exact ⟨some x, l, c', (zs.take l).map (BitVec.ofInt 8), hcs, by simp; omega, Lift.rd_ints (by omega) hcell hwz⟩
set_option maxRecDepth 100000 in
set_option maxHeartbeats 4000000 in
theorem open_b (hv : Value.okWide Try.prog W r base 24 v) (h : DataW.Trod enc Try.prog W 0 (fun _ => true) true 24 v d p) : ∃ A n c, ∃ bs : List (BitVec 8), v = .slice A n c ∧ n = bs.length ∧ Rd W A (bs.map v8) ∧ n ≤ c := by
 obtain ⟨A, n, c, rfl⟩ := okWide_slice Try.underlying24 hv
 obtain ⟨fuel, hf⟩ := h
 rcases open_ints Try.underlying24 Try.underlying5 (by kernel_rfl) hf with ⟨hcs, _⟩ | ⟨x, l, c', zs, hcs, _, hl, hm, hz, _, hcell, hwz⟩
 ·simp [Value.cells] at hcs
  obtain ⟨rfl, rfl, rfl⟩ := hcs
  exact ⟨none, 0, 0, [], rfl, rfl, .inl rfl, Nat.le_refl _⟩
 ·simp [Value.cells] at hcs
  obtain ⟨rfl, rfl, rfl⟩ := hcs
  simp only [if_true] at hz
  exact ⟨some x, n, c, (zs.take n).map (BitVec.ofInt 8), rfl, by simp; omega, Lift.rd_ints (by omega) hcell hwz, hl⟩
set_option maxRecDepth 100000 in
set_option maxHeartbeats 4000000 in
theorem fld {fuel : Nat} {cs : List Value} {x : Option (DataW H × List MemPlace)} {f : Field} {t : TypeId} {c : Value} (e : DataW.trod enc Try.prog W 0 (fun _ => true) true fuel f.type ((cs.drop f.offset).take (Try.prog.cellsOf f.type)) = x) (ht : f.type = t) (h1 : Try.prog.cellsOf t = 1) (hc : (cs.drop f.offset).take 1 = [c]) : DataW.trod enc Try.prog W 0 (fun _ => true) true fuel t [c] = x := by
 subst ht
 rw [h1, hc] at e
 exact e
set_option maxRecDepth 100000 in
set_option maxRecDepth 100000 in
set_option maxHeartbeats 4000000 in
theorem pdu_cells {fuel : Nat} {cs : List Value} {x : DataW H × List MemPlace} (hf : DataW.trod enc Try.prog W 0 (fun _ => true) true fuel 41 cs = some x) :
  ∃ (q : PDU) (EA : Option Addr) (en ec : Nat) (DA : Option Addr) (dn dc : Nat), cs = pc q.h EA en ec DA dn dc ∧ en = q.en.length ∧ Rd W EA (q.en.map v8) ∧ dn = q.da.length ∧ Rd W DA (q.da.map v8) := by
 obtain ⟨xs, m, _, _, hl, hxl, hx⟩ := DataW.trod_struct Try.underlying41 hf
 rw [show Try.prog.cellsOf 41 = 14 by kernel_rfl] at hl
 have hxl' : xs.length = 14 := hxl
 obtain ⟨c0, cs, rfl⟩ := List.exists_cons_of_length_eq_add_one hl
 simp only [List.length_cons, Nat.reduceEqDiff] at hl
 obtain ⟨c1, cs, rfl⟩ := List.exists_cons_of_length_eq_add_one hl
 simp only [List.length_cons, Nat.reduceEqDiff] at hl
 obtain ⟨c2, cs, rfl⟩ := List.exists_cons_of_length_eq_add_one hl
 simp only [List.length_cons, Nat.reduceEqDiff] at hl
 obtain ⟨c3, cs, rfl⟩ := List.exists_cons_of_length_eq_add_one hl
 simp only [List.length_cons, Nat.reduceEqDiff] at hl
 obtain ⟨c4, cs, rfl⟩ := List.exists_cons_of_length_eq_add_one hl
 simp only [List.length_cons, Nat.reduceEqDiff] at hl
 obtain ⟨c5, cs, rfl⟩ := List.exists_cons_of_length_eq_add_one hl
 simp only [List.length_cons, Nat.reduceEqDiff] at hl
 obtain ⟨c6, cs, rfl⟩ := List.exists_cons_of_length_eq_add_one hl
 simp only [List.length_cons, Nat.reduceEqDiff] at hl
 obtain ⟨c7, cs, rfl⟩ := List.exists_cons_of_length_eq_add_one hl
 simp only [List.length_cons, Nat.reduceEqDiff] at hl
 obtain ⟨c8, cs, rfl⟩ := List.exists_cons_of_length_eq_add_one hl
 simp only [List.length_cons, Nat.reduceEqDiff] at hl
 obtain ⟨c9, cs, rfl⟩ := List.exists_cons_of_length_eq_add_one hl
 simp only [List.length_cons, Nat.reduceEqDiff] at hl
 obtain ⟨c10, cs, rfl⟩ := List.exists_cons_of_length_eq_add_one hl
 simp only [List.length_cons, Nat.reduceEqDiff] at hl
 obtain ⟨c11, cs, rfl⟩ := List.exists_cons_of_length_eq_add_one hl
 simp only [List.length_cons, Nat.reduceEqDiff] at hl
 obtain ⟨c12, cs, rfl⟩ := List.exists_cons_of_length_eq_add_one hl
 simp only [List.length_cons, Nat.reduceEqDiff] at hl
 obtain ⟨c13, cs, rfl⟩ := List.exists_cons_of_length_eq_add_one hl
 obtain rfl : cs = [] := List.eq_nil_of_length_eq_zero (by simpa using hl)
 have e0 := fld (t := 37) (c := c0) (hx 0 _ rfl) rfl (by kernel_rfl) rfl
 rw [List.getElem?_eq_getElem (by omega)] at e0
 obtain ⟨z0, h0, _, w0⟩ := DataW.trod_int Try.underlying37 e0
 obtain rfl : c0 = .int .u8 z0 := by simpa using h0
 obtain ⟨b0, rfl⟩ := of_u8 w0
 have e1 := fld (t := 4) (c := c1) (hx 1 _ rfl) rfl (by kernel_rfl) rfl
 rw [List.getElem?_eq_getElem (by omega)] at e1
 obtain ⟨b1, h1, _⟩ := DataW.trod_bool Try.underlying4 e1
 obtain rfl : c1 = .bool b1 := by simpa using h1
 have e2 := fld (t := 4) (c := c2) (hx 2 _ rfl) rfl (by kernel_rfl) rfl
 rw [List.getElem?_eq_getElem (by omega)] at e2
 obtain ⟨b2, h2, _⟩ := DataW.trod_bool Try.underlying4 e2
 obtain rfl : c2 = .bool b2 := by simpa using h2
 have e3 := fld (t := 24) (c := c3) (hx 3 _ rfl) rfl (by kernel_rfl) rfl
 rw [List.getElem?_eq_getElem (by omega)] at e3
 obtain ⟨A3, n3, d3, bs3, h3, g3, r3⟩ := bytes_cell e3
 obtain rfl : c3 = .slice A3 n3 d3 := by simpa using h3
 have e4 := fld (t := 38) (c := c4) (hx 4 _ rfl) rfl (by kernel_rfl) rfl
 rw [List.getElem?_eq_getElem (by omega)] at e4
 obtain ⟨z4, h4, _, w4⟩ := DataW.trod_int Try.underlying38 e4
 obtain rfl : c4 = .int .u16 z4 := by simpa using h4
 obtain ⟨b4, rfl⟩ := of_u16 w4
 have e5 := fld (t := 38) (c := c5) (hx 5 _ rfl) rfl (by kernel_rfl) rfl
 rw [List.getElem?_eq_getElem (by omega)] at e5
 obtain ⟨z5, h5, _, w5⟩ := DataW.trod_int Try.underlying38 e5
 obtain rfl : c5 = .int .u16 z5 := by simpa using h5
 obtain ⟨b5, rfl⟩ := of_u16 w5
 have e6 := fld (t := 39) (c := c6) (hx 6 _ rfl) rfl (by kernel_rfl) rfl
 rw [List.getElem?_eq_getElem (by omega)] at e6
 obtain ⟨z6, h6, _, w6⟩ := DataW.trod_int Try.underlying39 e6
 obtain rfl : c6 = .int .u32 z6 := by simpa using h6
 obtain ⟨b6, rfl⟩ := of_u32 w6
 have e7 := fld (t := 39) (c := c7) (hx 7 _ rfl) rfl (by kernel_rfl) rfl
 rw [List.getElem?_eq_getElem (by omega)] at e7
 obtain ⟨z7, h7, _, w7⟩ := DataW.trod_int Try.underlying39 e7
 obtain rfl : c7 = .int .u32 z7 := by simpa using h7
 obtain ⟨b7, rfl⟩ := of_u32 w7
 have e8 := fld (t := 5) (c := c8) (hx 8 _ rfl) rfl (by kernel_rfl) rfl
 rw [List.getElem?_eq_getElem (by omega)] at e8
 obtain ⟨z8, h8, _, w8⟩ := DataW.trod_int Try.underlying5 e8
 obtain rfl : c8 = .int .u8 z8 := by simpa using h8
 obtain ⟨b8, rfl⟩ := of_u8 w8
 have e9 := fld (t := 5) (c := c9) (hx 9 _ rfl) rfl (by kernel_rfl) rfl
 rw [List.getElem?_eq_getElem (by omega)] at e9
 obtain ⟨z9, h9, _, w9⟩ := DataW.trod_int Try.underlying5 e9
 obtain rfl : c9 = .int .u8 z9 := by simpa using h9
 obtain ⟨b9, rfl⟩ := of_u8 w9
 have e10 := fld (t := 39) (c := c10) (hx 10 _ rfl) rfl (by kernel_rfl) rfl
 rw [List.getElem?_eq_getElem (by omega)] at e10
 obtain ⟨z10, h10, _, w10⟩ := DataW.trod_int Try.underlying39 e10
 obtain rfl : c10 = .int .u32 z10 := by simpa using h10
 obtain ⟨b10, rfl⟩ := of_u32 w10
 have e11 := fld (t := 38) (c := c11) (hx 11 _ rfl) rfl (by kernel_rfl) rfl
 rw [List.getElem?_eq_getElem (by omega)] at e11
 obtain ⟨z11, h11, _, w11⟩ := DataW.trod_int Try.underlying38 e11
 obtain rfl : c11 = .int .u16 z11 := by simpa using h11
 obtain ⟨b11, rfl⟩ := of_u16 w11
 have e12 := fld (t := 39) (c := c12) (hx 12 _ rfl) rfl (by kernel_rfl) rfl
 rw [List.getElem?_eq_getElem (by omega)] at e12
 obtain ⟨z12, h12, _, w12⟩ := DataW.trod_int Try.underlying39 e12
 obtain rfl : c12 = .int .u32 z12 := by simpa using h12
 obtain ⟨b12, rfl⟩ := of_u32 w12
 have e13 := fld (t := 24) (c := c13) (hx 13 _ rfl) rfl (by kernel_rfl) rfl
 rw [List.getElem?_eq_getElem (by omega)] at e13
 obtain ⟨A13, n13, d13, bs13, h13, g13, r13⟩ := bytes_cell e13
 obtain rfl : c13 = .slice A13 n13 d13 := by simpa using h13
 exact ⟨{ h := { k := b0, la := b1, su := b2, id := b4, tg := b5, of := b6, ln := b7, al := b8, dg := b9, mx := b10, st := b11, nf := b12 }, en := bs3, da := bs13 }, A3, n3, d3, A13, n13, d13, rfl, g3, r3, g13, r13⟩
set_option maxRecDepth 100000 in
set_option maxRecDepth 100000 in
set_option maxHeartbeats 4000000 in
theorem open_fm (hv : Value.okWide Try.prog W r base 23 v) (h : DataW.Trod enc Try.prog W 0 (fun _ => true) true 23 v d p) : ∃ f : Fm, v = fv f := by
 obtain ⟨cs, rfl, hf⟩ := Lift.open_flatv (ks := [none, none, some .i64]) 3 (by kernel_rfl) (by kernel_rfl) hv h
 obtain ⟨_, _, rfl, ⟨a0, rfl⟩, _, _, rfl, ⟨a1, rfl⟩, _, _, rfl, ⟨a2, rfl, _⟩, h'⟩ := hf
 obtain rfl := h'
 exact ⟨⟨a0, a1, a2⟩, rfl⟩
end
end Pd
end Go.Proofs.Ytdngfcmakjlamaa


/- Opening the values that layer 38's laws take. No condition. -/
import Derived.Test.YtakdoijemopejaaGreatBaseB
import Derived.Test.YtakdoijemopejaaGreatAuKn
set_option linter.unusedSimpArgs false
set_option linter.unusedVariables false
namespace Go.Proofs.YtakdoijemopejaaGreat
open Go Go.ChangeShapes Go.WideShapes Go.ChangeAt Go.RowKit
namespace Au
open Li (v8 Rd)
open Bv (n8 n16 n32 n64)
set_option maxRecDepth 100000 in
set_option maxHeartbeats 4000000 in
theorem of_u8 {z : Int} (h : (Lit.int .u8 z).wf = true) : ∃ b : BitVec 8, z = n8 b := by
 have h : 0 ≤ z ∧ z ≤ 255 := by simpa [Lit.wf, IntKind.min, IntKind.max, IntKind.signed, IntKind.bits] using h
 exact ⟨BitVec.ofInt 8 z, by unfold n8; rw [BitVec.toNat_ofInt]; simp; omega⟩
set_option maxRecDepth 100000 in
set_option maxHeartbeats 4000000 in
theorem of_u16 {z : Int} (h : (Lit.int .u16 z).wf = true) : ∃ b : BitVec 16, z = n16 b := by
 have h : 0 ≤ z ∧ z ≤ 65535 := by simpa [Lit.wf, IntKind.min, IntKind.max, IntKind.signed, IntKind.bits] using h
 exact ⟨BitVec.ofInt 16 z, by unfold n16; rw [BitVec.toNat_ofInt]; simp; omega⟩
set_option maxRecDepth 100000 in
set_option maxHeartbeats 4000000 in
theorem of_u32 {z : Int} (h : (Lit.int .u32 z).wf = true) : ∃ b : BitVec 32, z = n32 b := by
 have h : 0 ≤ z ∧ z ≤ 4294967295 := by simpa [Lit.wf, IntKind.min, IntKind.max, IntKind.signed, IntKind.bits] using h
 exact ⟨BitVec.ofInt 32 z, by unfold n32; rw [BitVec.toNat_ofInt]; simp; omega⟩
section
variable {H : Type} {enc : TypeId × Value → H} {W : World} {r : Reach} {base : Nat} {v : Value} {d : DataW H} {p : List MemPlace}
set_option maxRecDepth 100000 in
set_option maxHeartbeats 4000000 in
theorem bytes_cell {fuel : Nat} {cs : List Value} {x : DataW H × List MemPlace} (hf : DataW.trod enc Tryz.prog W 0 (fun _ => true) true fuel 22 cs = some x) : ∃ A n c, ∃ bs : List (BitVec 8), cs = [.slice A n c] ∧ n = bs.length ∧ Rd W A (bs.map v8) := by
 rcases open_ints Tryz.underlying22 Tryz.underlying5 (by kernel_rfl) hf with ⟨hcs, _⟩ | ⟨x, l, c', zs, hcs, _, hl, hm, hz, _, hcell, hwz⟩
 ·exact ⟨none, 0, 0, [], hcs, rfl, .inl rfl⟩
 ·simp only [if_true] at hz
  exact ⟨some x, l, c', (zs.take l).map (BitVec.ofInt 8), hcs, by simp; omega, Lift.rd_ints (by omega) hcell hwz⟩
set_option maxRecDepth 100000 in
set_option maxHeartbeats 4000000 in
theorem open_b (hv : Value.okWide Tryz.prog W r base 22 v) (h : DataW.Trod enc Tryz.prog W 0 (fun _ => true) true 22 v d p) : ∃ A n c, ∃ bs : List (BitVec 8), v = .slice A n c ∧ n = bs.length ∧ Rd W A (bs.map v8) ∧ n ≤ c := by
 obtain ⟨A, n, c, rfl⟩ := okWide_slice Tryz.underlying22 hv
 obtain ⟨fuel, hf⟩ := h
 rcases open_ints Tryz.underlying22 Tryz.underlying5 (by kernel_rfl) hf with ⟨hcs, _⟩ | ⟨x, l, c', zs, hcs, _, hl, hm, hz, _, hcell, hwz⟩
 ·simp [Value.cells] at hcs
  obtain ⟨rfl, rfl, rfl⟩ := hcs
  exact ⟨none, 0, 0, [], rfl, rfl, .inl rfl, Nat.le_refl _⟩
 ·simp [Value.cells] at hcs
  obtain ⟨rfl, rfl, rfl⟩ := hcs
  simp only [if_true] at hz
  exact ⟨some x, n, c, (zs.take n).map (BitVec.ofInt 8), rfl, by simp; omega, Lift.rd_ints (by omega) hcell hwz, hl⟩
set_option maxRecDepth 100000 in
set_option maxHeartbeats 4000000 in
theorem fld {fuel : Nat} {cs : List Value} {x : Option (DataW H × List MemPlace)} {f : Field} {t : TypeId} {c : Value} (e : DataW.trod enc Tryz.prog W 0 (fun _ => true) true fuel f.type ((cs.drop f.offset).take (Tryz.prog.cellsOf f.type)) = x) (ht : f.type = t) (h1 : Tryz.prog.cellsOf t = 1) (hc : (cs.drop f.offset).take 1 = [c]) : DataW.trod enc Tryz.prog W 0 (fun _ => true) true fuel t [c] = x := by
 subst ht
 rw [h1, hc] at e
 exact e
set_option maxRecDepth 100000 in
set_option maxHeartbeats 4000000 in
theorem row_of {t : TypeId} (ht : (Tryz.prog.underlying t).map TypeDesc.isRow = some true) (hv : Value.okWide Tryz.prog W r base t v) : ∃ cs : List Value, v = .agg cs.toArray := by
 unfold Value.okWide at hv
 split at hv
 ·obtain ⟨cs, rfl, _⟩ := hv; exact ⟨cs.toList, by simp⟩
 ·obtain ⟨cs, rfl, _⟩ := hv; exact ⟨cs.toList, by simp⟩
 ·rename_i h1 h2
  cases hu : Tryz.prog.underlying t with
  | none => simp [hu] at ht
  | some d =>
   cases d <;> simp [hu, TypeDesc.isRow] at ht
   ·exact absurd hu (h2 _ _)
   ·exact absurd hu (h1 _)
set_option maxRecDepth 100000 in
set_option maxHeartbeats 4000000 in
theorem open_u32 {W : World} {base : Nat} {v : Value} (hv : Value.okWide Tryz.prog W .any base 32 v) : ∃ x : BitVec 32, v = .int .u32 (n32 x) := by
 have hu := Tryz.underlying32
 obtain ⟨z, rfl⟩ := Go.WideShapes.okWide_int hu hv
 have h : IntKind.u32 = IntKind.u32 ∧ IntKind.u32.has z := by
  unfold Value.okWide at hv
  rw [hu] at hv
  exact hv
 replace h := h.2
 simp only [IntKind.has, IntKind.min, IntKind.max, IntKind.signed, IntKind.bits] at h
 exact ⟨BitVec.ofInt 32 z, by unfold n32; rw [BitVec.toNat_ofInt]; simp at h ⊢; omega⟩
set_option maxRecDepth 100000 in
set_option maxHeartbeats 4000000 in
theorem open_u16 {W : World} {base : Nat} {v : Value} (hv : Value.okWide Tryz.prog W .any base 33 v) : ∃ x : BitVec 16, v = .int .u16 (n16 x) := by
 have hu := Tryz.underlying33
 obtain ⟨z, rfl⟩ := Go.WideShapes.okWide_int hu hv
 have h : IntKind.u16 = IntKind.u16 ∧ IntKind.u16.has z := by
  unfold Value.okWide at hv
  rw [hu] at hv
  exact hv
 replace h := h.2
 simp only [IntKind.has, IntKind.min, IntKind.max, IntKind.signed, IntKind.bits] at h
 exact ⟨BitVec.ofInt 16 z, by unfold n16; rw [BitVec.toNat_ofInt]; simp at h ⊢; omega⟩
set_option maxRecDepth 100000 in
set_option maxRecDepth 100000 in
set_option maxHeartbeats 4000000 in
theorem party_cells {fuel : Nat} {cs : List Value} {x : DataW H × List MemPlace} (hf : DataW.trod enc Tryz.prog W 0 (fun _ => true) true fuel 24 cs = some x) :
  ∃ (q : Pn) (A : Option Addr) (c : Nat), cs = pcl q A c ∧ Rd W A (q.sec.map v8) := by
 obtain ⟨xs, m, _, _, hl, hxl, hx⟩ := DataW.trod_struct Tryz.underlying24 hf
 rw [show Tryz.prog.cellsOf 24 = 3 by kernel_rfl] at hl
 have hxl' : xs.length = 3 := hxl
 obtain ⟨c0, cs, rfl⟩ := List.exists_cons_of_length_eq_add_one hl
 simp only [List.length_cons, Nat.reduceEqDiff] at hl
 obtain ⟨c1, cs, rfl⟩ := List.exists_cons_of_length_eq_add_one hl
 simp only [List.length_cons, Nat.reduceEqDiff] at hl
 obtain ⟨c2, cs, rfl⟩ := List.exists_cons_of_length_eq_add_one hl
 obtain rfl : cs = [] := List.eq_nil_of_length_eq_zero (by simpa using hl)
 have e0 := fld (t := 22) (c := c0) (hx 0 _ rfl) rfl (by kernel_rfl) rfl
 rw [List.getElem?_eq_getElem (by omega)] at e0
 obtain ⟨A0, n0, d0, bs0, h0, g0, r0⟩ := bytes_cell e0
 obtain rfl : c0 = .slice A0 n0 d0 := by simpa using h0
 have e1 := fld (t := 9) (c := c1) (hx 1 _ rfl) rfl (by kernel_rfl) rfl
 rw [List.getElem?_eq_getElem (by omega)] at e1
 obtain ⟨s1, h1, _⟩ := DataW.trod_string Tryz.underlying9 e1
 obtain rfl : c1 = .string s1 := by simpa using h1
 have e2 := fld (t := 9) (c := c2) (hx 2 _ rfl) rfl (by kernel_rfl) rfl
 rw [List.getElem?_eq_getElem (by omega)] at e2
 obtain ⟨s2, h2, _⟩ := DataW.trod_string Tryz.underlying9 e2
 obtain rfl : c2 = .string s2 := by simpa using h2
 exact ⟨⟨bs0, s1, s2⟩, A0, d0, by unfold pcl; rw [g0], r0⟩
set_option maxRecDepth 100000 in
set_option maxHeartbeats 4000000 in
theorem open_party (hv : Value.okWide Tryz.prog W r base 24 v) (h : DataW.Trod enc Tryz.prog W 0 (fun _ => true) true 24 v d p) :
  ∃ (q : Pn) (A : Option Addr) (c : Nat), v = .agg (pcl q A c).toArray ∧ Rd W A (q.sec.map v8) := by
 obtain ⟨cs, rfl⟩ := row_of (by kernel_rfl) hv
 obtain ⟨fuel, hf⟩ := h
 have hc : (Value.agg cs.toArray).cells.toList = cs := by simp [Value.cells]
 rw [hc] at hf
 obtain ⟨q, A, c, rfl, h1⟩ := party_cells hf
 exact ⟨q, A, c, rfl, h1⟩
theorem fit8 : ∀ (n : Nat) (cs : List Value), Lift.fit (List.replicate n (some .u8)) cs → ∃ bs : Bs, cs = bs.map v8 ∧ bs.length = n
 | 0, cs, h => ⟨[], by cases cs with | nil => rfl | cons a l => exact absurd h (by simp [Lift.fit]), rfl⟩
 | n + 1, cs, h => by
  rw [List.replicate_succ] at h
  obtain ⟨u, us, rfl, hu, h2⟩ := h
  obtain ⟨z, rfl, hz⟩ := hu
  obtain ⟨bs, rfl, hl⟩ := fit8 n us h2
  obtain ⟨b, rfl⟩ := of_u8 hz
  exact ⟨b :: bs, rfl, by simp [hl]⟩
end
end Au
end Go.Proofs.YtakdoijemopejaaGreat

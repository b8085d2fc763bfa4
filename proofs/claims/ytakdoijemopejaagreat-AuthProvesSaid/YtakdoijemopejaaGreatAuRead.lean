/- Layer 1 as layer 38 uses it: Get, a reader and its methods. No condition but Go's own limits. -/
import Derived.Test.YtakdoijemopejaaGreatAuWire
set_option linter.unusedSimpArgs false
set_option linter.unusedVariables false
namespace Go.Proofs.YtakdoijemopejaaGreat
open Go Go.RowKit
namespace Au
open Se (St At Reads Cell)
open Li (v8 v8_one Rd)
open Bv (n8 n16 n32 n64)
variable {w0 w : World} {X : List Nat} {L : List At}
attribute [local irreducible] Calls
section
attribute [local go_sem] Bv.of_n64 Bv.of8_n64
attribute [local go_sem ↓] Bv.shl_n64 Bv.or_n64
theorem wrap64_n8 (x : BitVec 8) : IntKind.u64.wrap (n8 x) = n64 (x.setWidth 64) := by
 rw [Bv.wrap_n64_of]
 congr 1
 unfold n8; apply BitVec.eq_of_toNat_eq; simp
attribute [local go_sem] wrap64_n8
set_option maxRecDepth 100000 in
set_option maxHeartbeats 4000000 in
theorem get_st (hs : St w0 X L w) (bs : Bs) (n c : Nat) (hn : n = bs.length) (h1 : 1 ≤ n) (h8 : n ≤ 8) {A : Option Addr} (hr : Reads L A (bs.map v8)) :
  Calls Tryz.prog 69 #[.slice A n c] w fun e w' => e = .returned (.tuple #[.int .u64 (n64 (getL bs)), .int .i64 0]) ∧ St w0 X L w' := by
 have HN := Lib.hid hn
 have d1 : decide ((n : Int) < 1) = false := by simp; omega
 have d2 : decide (8 < (n : Int)) = false := by simp; omega
 have H8 := Lib.hid h8
 clear hn h1 h8
 go_enter Tryz.func69, Tryz.ntmps69
 go_wp2_with fail
 clear d1 d2
 have h8 := H8.out
 go_loopg [2, 16] n (fun gh s2 s16 wr => ∃ (i : Nat), gh = n - i ∧ i ≤ n ∧ s16 = .int .i64 i ∧ s2 = .int .u64 (n64 (getN bs i)) ∧ St w0 X L wr)
 case atStart => exact ⟨0, rfl, by omega, rfl, rfl, hs⟩
 case round =>
  clear hs
  rename World => w
  obtain ⟨i, rfl, hi, rfl, rfl, hs⟩ := hrel
  by_cases hlt : i < n
  ·have hlt' : (i : Int) < (n : Int) := by omega
   have h8 : (0 : Int) ≤ 8 * (i : Int) := by omega
   have hil : i < bs.length := by have := HN.out; omega
   obtain ⟨x, hx⟩ : ∃ x, x = bs.getD i 0#8 := ⟨_, rfl⟩
   have hb : (bs.map v8)[i]? = some (v8 x) := by rw [hx]; simp [hil]
   have ST : Hid (getN bs (i + 1) = getN bs i ||| (x.setWidth 64 <<< (8 * i))) := Lib.hid (by rw [getN, hx])
   have HB := Lib.hid hb
   clear hb hx hil
   obtain ⟨g, off, rfl⟩ : ∃ g off, A = some ⟨g, off, none⟩ := by
    obtain ⟨g, off, h, _⟩ := (hr w hs.hold).cells (by intro e; have := HB.out; rw [e] at this; simp at this)
    exact ⟨g, off, h⟩
   go_wp2_with (first | ((with_reducible refine Se.isL (o := ⟨some 20, _, _, _, _, _⟩) ?_); (refine Se.toL rfl (Se.ld (o := ⟨some 20, _, _, _, _, _⟩) hs rfl rfl (hr.cell i HB.out) (by kernel_rfl) ?_))))
   go_roundg (n - (i + 1))
   case measure => omega
   case rel => exact ⟨i + 1, rfl, by omega, by go_num, by rw [ST.out], hs⟩
  ·obtain rfl : i = n := by omega
   go_wp2_with fail
   go_ret2
   unfold getL
   rw [← HN.out]
   exact ⟨rfl, hs⟩
end
theorem u64i : (Tryz.prog.info? 90).map (fun i => (i.zero, i.size)) = some (some (.int .u64 0), 1) := by kernel_rfl
theorem u64i3 : (Tryz.prog.info? 90).map (fun i => (i.zero, i.size, i.bytes)) = some (some (.int .u64 0), 1, 8) := by kernel_rfl
theorem readI : (Tryz.prog.info? 114).bind (fun i => i.zero.map (·.cells.toList)) = some [.slice none 0 0, .int .i64 0] := by kernel_rfl
abbrev rB (g : Nat) (A : Option Addr) (n c : Nat) (a : Nat) : At := .blk g 114 [.slice A n c, .int .i64 a]
set_option maxRecDepth 100000 in
set_option maxHeartbeats 4000000 in
theorem newReader_st (hs : St w0 X L w) {A : Option Addr} {n c : Nat} {bs : Bs} (hr : Reads L A (bs.map v8)) (hn : n = bs.length) (hb : n ≤ 70368744177664) :
  Calls Tryz.prog 46 #[.slice A n c] w fun e w' => ∃ g A2 c2, e = .returned (.pointer (some ⟨g, 0, none⟩)) ∧ n ≤ c2 ∧ St w0 X (rB g A2 n c2 0 :: .rd A2 (bs.map v8) :: L) w' := by
 have C := Lib.hid (clone_st hs (c := c) hr (v8_one bs) (by simpa using hn) hb)
 clear hn hb hr
 go_enter Tryz.func46, Tryz.ntmps46
 go_wp2_with (first | ((with_reducible refine Se.isL (o := ⟨some 7, _, _, _, _, _⟩) ?_); (refine Se.toL rfl (Se.bx (o := ⟨some 7, _, _, _, _, _⟩) hs rfl rfl (l := [.slice A2 n c2, .int .i64 0]) rfl ?_); clear hs; rintro w g7 - hs)) | (go_at_call 40; refine Calls.mono (C.out) ?_; clear hs; rintro e w ⟨A2, c2, r2, rfl, hs⟩))
 go_ret
 refine ⟨g7, A2, c2, rfl, (show Se.Ow w 1 r2 A2 n c2 (bs.map v8) from hs.hold (.own 1 r2 A2 n c2 (bs.map v8)) (by simp)).2.1, ?_⟩
 have h2 := (hs.perm (List.Perm.swap _ _ _)).own_rd
 exact h2.perm (List.Perm.swap _ _ _)
/-- A slice cut at k, as the model names it. -/
def cutA (A : Option Addr) (k c : Nat) : Option Addr := if c = k then A else A.map (·.add k)
theorem Reads.cut {A : Option Addr} {bs : Bs} {n c k : Nat} (hr : Reads L A (bs.map v8)) (hn : n = bs.length) (hk : k ≤ n) (hc : n ≤ c) : Reads L (cutA A k c) ((bs.drop k).map v8) := fun w hw => by
 have := Se.Rd.drop (hr w hw) k c (by simp; omega) (by intro e; simp; omega)
 rwa [← List.map_drop] at this
set_option maxRecDepth 100000 in
set_option maxHeartbeats 4000000 in
theorem take_st {g : Nat} {A : Option Addr} {n c a k : Nat} {bs : Bs} (hs : St w0 X (rB g A n c a :: L) w) (hr : Reads L A (bs.map v8)) (hn : n = bs.length) (hk : k ≤ n) (hc : n ≤ c) (hb : n ≤ 1000) (ha : a ≤ 1000) :
  Calls Tryz.prog 60 #[.pointer (some ⟨g, 0, none⟩), .int .i64 k] w fun e w' => e = .returned (.tuple #[.slice A k k, .int .i64 0]) ∧ St w0 X (rB g (cutA A k c) (n - k) (c - k) (a + k) :: L) w' := by
 simp only [rB] at hs ⊢
 have d1 : decide ((k : Int) < 0) = false := by simp
 have d2 : decide ((n : Int) < (k : Int)) = false := by simp; omega
 clear hn
 go_enter Tryz.func60, Tryz.ntmps60
 go_upto_region 6 with (first | ((with_reducible refine Se.isL (o := ⟨some 15, _, _, _, _, _⟩) ?_); (refine Se.toL rfl (Se.ld (o := ⟨some 15, _, _, _, _, _⟩) hs rfl rfl (Cell.blk 0 rfl rfl) (by kernel_rfl) ?_))) | ((with_reducible refine Se.isL (o := ⟨some 21, _, _, _, _, _⟩) ?_); (refine Se.toL rfl (Se.ld (o := ⟨some 21, _, _, _, _, _⟩) hs rfl rfl (Cell.blk 0 rfl rfl) (by kernel_rfl) ?_))))
 refine Ch.region' 19 (fun wx => wx.cell? ⟨g, 1, none⟩ = some (.int .i64 a)) (fun | 5 => true | 16 => true | _ => false) (by kernel_rfl) (by decide +kernel) ((hs.drew.hold _ List.mem_cons_self).cell 1) ?_
 replace hs := hs.drew
 generalize w.drew = w at hs ⊢
 change Ch.CW _ _ _ _ _ [0, 1, 2, 3, 4, 5, 6, 7, 8, 9, 10, 11, 12, 13, 14, 15, 16, 17, 18] _ _
 iterate 5 (refine Ch.pure (v := ?_) (by rfl) (by rfl) (by rfl) (fun wx hS => ?_) ?_; rotate_left; (focus (go_simp; (first | done | with_reducible rfl))); (try simp only [Act.put, List.setIfInBounds_toArray, List.set_cons_zero, List.set_cons_succ]))
 refine Ch.noise (by rfl) (by rfl) (by rfl) (Se.ld hs rfl rfl (Cell.blk 0 rfl rfl) (by kernel_rfl) ?_)
 refine ⟨(hs.hold _ List.mem_cons_self).cell 1, ?_⟩
 (try simp only [Act.put, List.setIfInBounds_toArray, List.set_cons_zero, List.set_cons_succ])
 iterate 1 (refine Ch.pure (v := ?_) (by rfl) (by rfl) (by rfl) (fun wx hS => ?_) ?_; rotate_left; (focus (go_simp; (first | done | with_reducible rfl))); (try simp only [Act.put, List.setIfInBounds_toArray, List.set_cons_zero, List.set_cons_succ]))
 refine Ch.pure (v := .slice (cutA A k c) (n - k) (c - k)) (by rfl) (by rfl) (by rfl) (fun wx hS => by unfold cutA; go_simp) ?_
 (try simp only [Act.put, List.setIfInBounds_toArray, List.set_cons_zero, List.set_cons_succ])
 iterate 3 (refine Ch.pure (v := ?_) (by rfl) (by rfl) (by rfl) (fun wx hS => ?_) ?_; rotate_left; (focus (go_simp; (first | done | with_reducible rfl))); (try simp only [Act.put, List.setIfInBounds_toArray, List.set_cons_zero, List.set_cons_succ]))
 iterate 1 ((first | (refine Ch.pure (v := ?_) (by rfl) (by rfl) (by rfl) (fun wx hS => ?_) ?_; rotate_left; (focus (go_simp; (first | done | with_reducible rfl)))) | refine Ch.pure (v := _) (by rfl) (by rfl) (by rfl) (fun wx hS => Se.xl rfl rfl hS (by decide +kernel)) ?_); (try simp only [Act.put, List.setIfInBounds_toArray, List.set_cons_zero, List.set_cons_succ]))
 iterate 4 (refine Ch.pure (v := ?_) (by rfl) (by rfl) (by rfl) (fun wx hS => ?_) ?_; rotate_left; (focus (go_simp; (first | done | with_reducible rfl))); (try simp only [Act.put, List.setIfInBounds_toArray, List.set_cons_zero, List.set_cons_succ]))
 refine Ch.noise (by rfl) (by rfl) (by rfl) (Se.so 0 (v := .slice (cutA A k c) (n - k) (c - k)) hs rfl rfl rfl rfl rfl (by kernel_rfl) (by simp) ?_)
 clear hs
 intro w hs
 simp only [List.set_cons_zero] at hs
 refine ⟨(hs.hold _ List.mem_cons_self).cell 1, ?_⟩
 (try simp only [Act.put, List.setIfInBounds_toArray, List.set_cons_zero, List.set_cons_succ])
 iterate 2 (refine Ch.pure (v := ?_) (by rfl) (by rfl) (by rfl) (fun wx hS => ?_) ?_; rotate_left; (focus (go_simp; (first | done | with_reducible rfl))); (try simp only [Act.put, List.setIfInBounds_toArray, List.set_cons_zero, List.set_cons_succ]))
 refine Ch.done ?_
 try simp only [List.drop_succ_cons, List.drop_zero]
 go_wp2_with (first | ((with_reducible refine Se.isL (o := ⟨none, _, _, _, _, _⟩) ?_); ((first | refine Se.toL rfl (Se.so 0 (v := .int _ _) hs rfl rfl rfl rfl rfl (by kernel_rfl) (by simp) ?_) | refine Se.toL rfl (Se.so 0 (v := .bool _) hs rfl rfl rfl rfl rfl (by kernel_rfl) (by simp) ?_) | refine Se.toL rfl (Se.so 0 (v := .slice _ _ _) hs rfl rfl rfl rfl rfl (by kernel_rfl) (by simp) ?_) | refine Se.toL rfl (Se.so 0 (v := .pointer _) hs rfl rfl rfl rfl rfl (by kernel_rfl) (by simp) ?_) | refine Se.toL rfl (Se.so 0 (v := .string _) hs rfl rfl rfl rfl rfl (by kernel_rfl) (by simp) ?_) | refine Se.toL rfl (Se.so 0 (v := .map _) hs rfl rfl rfl rfl rfl (by kernel_rfl) (by simp) ?_) | refine Se.toL rfl (Se.so 0 (v := .func _ _ _) hs rfl rfl rfl rfl rfl (by kernel_rfl) (by simp) ?_) | refine Se.toL rfl (Se.so 0 (v := .nilFunc) hs rfl rfl rfl rfl rfl (by kernel_rfl) (by simp) ?_)); clear hs; intro w hs; try simp only [List.cons_append, List.nil_append, List.set_cons_zero] at hs)))
 go_ret2
 refine ⟨rfl, ?_⟩
 rw [IntWalk.i64_in _ (by omega)] at hs
 exact hs
set_option maxRecDepth 100000 in
set_option maxHeartbeats 4000000 in
theorem field_st {g : Nat} {A : Option Addr} {n c a k : Nat} {bs : Bs} (hs : St w0 X (rB g A n c a :: L) w) (hr : Reads L A (bs.map v8)) (hn : n = bs.length) (h1 : 1 ≤ k) (h7 : k ≤ 7) (hk : k ≤ n) (hc : n ≤ c) (hb : n ≤ 1000) (ha : a ≤ 1000) :
  Calls Tryz.prog 59 #[.pointer (some ⟨g, 0, none⟩), .int .i64 k] w fun e w' => ∃ g2, e = .returned (.tuple #[.slice (some ⟨g2, 0, none⟩) 1 1, .int .i64 0]) ∧ St w0 X (.blk g2 90 [.int .u64 (n64 (getL (bs.take k)))] :: rB g (cutA A k c) (n - k) (c - k) (a + k) :: L) w' := by
 have C := Lib.hid (take_st hs hr hn hk hc hb ha)
 have CG : Hid (∀ (w : World), St w0 X (rB g (cutA A k c) (n - k) (c - k) (a + k) :: L) w → Calls Tryz.prog 69 #[.slice A k k] w fun e w' => e = .returned (.tuple #[.int .u64 (n64 (getL (bs.take k))), .int .i64 0]) ∧ St w0 X (rB g (cutA A k c) (n - k) (c - k) (a + k) :: L) w') := Lib.hid (fun w hs => get_st hs (bs.take k) k k (by simp; omega) h1 (by omega) (by rw [List.map_take]; exact (hr.take k).cons _))
 have d1 : decide ((k : Int) < 1) = false := by simp; omega
 have d2 : decide (8 < (k : Int)) = false := by simp; omega
 obtain ⟨V, hV⟩ : ∃ V, V = n64 (getL (bs.take k)) := ⟨_, rfl⟩
 rw [← hV] at CG ⊢
 clear hr hn h1 h7 hk hc hb ha hV
 go_enter Tryz.func59, Tryz.ntmps59
 go_wp2_with (first | ((with_reducible refine Se.isL (o := ⟨some 30, _, _, _, _, _⟩) ?_); (refine Se.toL rfl (Se.bsv (o := ⟨some 30, _, _, _, _, _⟩) hs rfl Tryz.underlying97 u64i rfl ([.int .u64 V]) (by rfl) (by rfl) (by decide) (by decide) (by simp [Value.oneCell']) ?_); clear hs; rintro w g30 - hs)) | (go_at_call 60; refine Calls.mono (C.out) ?_; clear hs; rintro e w ⟨rfl, hs⟩) | (go_at_call 69; refine Calls.mono (CG.out _ hs) ?_; clear hs; rintro e w ⟨rfl, hs⟩))
 go_ret2
 exact ⟨g30, rfl, hs⟩
theorem state_any (g : Nat) (w : World) : Calls Tryz.prog 57 #[.pointer (some ⟨g, 0, none⟩)] w fun e w' => e = .returned (.pointer (some ⟨g, 0, none⟩)) ∧ w' = w := by
 go_enter Tryz.func57, Tryz.ntmps57
 go_wp2
 go_ret
 exact ⟨rfl, rfl⟩
abbrev v64 (x : BitVec 64) : Value := .int .u64 (n64 x)
def so (szs : List Nat) (i : Nat) : Nat := (szs.take i).sum
def fo (bs : Bs) (szs : List Nat) (i : Nat) : List (BitVec 64) := (List.range i).map fun j => getL ((bs.drop (so szs j)).take (szs.getD j 0))
theorem fo_snoc (bs : Bs) (szs : List Nat) (i : Nat) : fo bs szs (i + 1) = fo bs szs i ++ [getL ((bs.drop (so szs i)).take (szs.getD i 0))] := by simp [fo, List.range_succ]
theorem so_snoc (szs : List Nat) (i : Nat) (h : i < szs.length) : so szs (i + 1) = so szs i + szs.getD i 0 := by
 have e : szs.getD i 0 = szs[i] := by simp [h]
 unfold so; rw [e, List.take_succ_eq_append_getElem h, List.sum_append, List.sum_singleton]
theorem so_le (szs : List Nat) (i : Nat) : so szs i ≤ szs.sum := by
 have : szs.sum = so szs i + (szs.drop i).sum := by unfold so; rw [← List.sum_append, List.take_append_drop]
 omega
theorem v64_one (xs : List (BitVec 64)) : ∀ v ∈ xs.map v64, v.oneCell' = true := by intro v hv; obtain ⟨x, _, rfl⟩ := List.mem_map.1 hv; rfl
/-- Address A' reads what lies behind the first o bytes at A. -/
def Cuts (bs : Bs) (A A' : Option Addr) (o : Nat) : Prop := ∀ L' : List At, Reads L' A (bs.map v8) → Reads L' A' ((bs.drop o).map v8)
set_option maxRecDepth 100000 in
set_option maxHeartbeats 4000000 in
theorem eachR_st {g : Nat} {A : Option Addr} {n c : Nat} {bs : Bs} (hs : St w0 X (rB g A n c 0 :: L) w) (hr : Reads L A (bs.map v8)) (hn : n = bs.length) (hb : n ≤ 1000) (hc : n ≤ c) (szs : List Nat) {S : Option Addr} {m cap : Nat} (hm : m = szs.length) (hm9 : m ≤ 100) (hS : Reads L S (szs.map fun (k : Nat) => Value.int .i64 (k : Int))) (hz : ∀ k ∈ szs, 1 ≤ k ∧ k ≤ 7) (ht : szs.sum ≤ n) :
  Calls Tryz.prog 58 #[.slice S m cap, .func (.func 59) #[.pointer (some ⟨g, 0, none⟩)] #[]] w fun e w' => ∃ r2 A2 c2 A', e = .returned (.tuple #[.slice A2 m c2, .int .i64 0]) ∧ Cuts bs A A' szs.sum ∧ St w0 X (.own 1 r2 A2 m c2 ((fo bs szs m).map v64) :: rB g A' (n - szs.sum) (c - szs.sum) szs.sum :: L) w' := by
 have HN := Lib.hid hn
 have HM := Lib.hid hm
 have HZ := Lib.hid hz
 have HT := Lib.hid ht
 have hm9' := Lib.hid hm9
 replace hs := hs.nil_own 1 none
 have HR0 := Lib.hid hr
 have HC := Lib.hid hc
 have HB := Lib.hid hb
 clear hn hm hz ht hr hc hb
 go_enter Tryz.func58, Tryz.ntmps58
 go_wp2_with fail
 go_loopg [4, 12] m (fun gh s4 s12 wr => ∃ (i : Nat) (r : Option Nat) (B : Option Addr) (c' : Nat) (A' : Option Addr) (n' c2 o : Nat), gh = m - i ∧ i ≤ m ∧ s12 = .int .i64 i ∧ s4 = .slice B i c' ∧ Hid (o = so szs i ∧ n' = n - o ∧ c2 = c - o) ∧ Hid (Cuts bs A A' o) ∧ St w0 X (.own 1 r B i c' ((fo bs szs i).map v64) :: rB g A' n' c2 o :: L) wr)
 case atStart => exact ⟨0, none, none, 0, A, n, c, 0, rfl, by omega, rfl, rfl, Lib.hid ⟨rfl, rfl, rfl⟩, Lib.hid (fun _ h => h), hs⟩
 case round =>
  clear hs
  rename World => w
  obtain ⟨i, r, B, c', A', n', c2, o, rfl, hi, rfl, rfl, HO, HR, hs⟩ := hrel
  by_cases hlt : i < m
  ·have hlt' : (i : Int) < (m : Int) := by omega
   have hil : i < szs.length := by have := HM.out; omega
   obtain ⟨k, hk⟩ : ∃ k, k = szs.getD i 0 := ⟨_, rfl⟩
   have hkm : k ∈ szs := by rw [hk]; simp [hil]
   have hb := (szs.map fun (k : Nat) => Value.int .i64 (k : Int))[i]?
   have HB1 := Lib.hid (show (szs.map fun (k : Nat) => Value.int .i64 (k : Int))[i]? = some (.int .i64 (k : Int)) by rw [hk]; simp [hil])
   have SS := so_snoc szs i hil
   have SL := so_le szs (i + 1)
   rw [← hk, ← HO.out.1] at SS
   have FS := Lib.hid (show fo bs szs (i + 1) = fo bs szs i ++ [getL ((bs.drop o).take k)] by rw [fo_snoc, ← hk, HO.out.1])
   have HOK : Hid (o + k ≤ n) := Lib.hid (by have := HT.out; omega)
   have SS := Lib.hid SS
   have C := Lib.hid (field_st (hs.perm (List.Perm.swap _ _ _)) ((HR.out _ HR0.out).cons _) (by rw [List.length_drop, HO.out.2.1, HN.out]) (HZ.out k hkm).1 (HZ.out k hkm).2 (by have := HO.out; have := HOK.out; omega) (by have := HO.out; have := HC.out; omega) (by have := HO.out; have := HB.out; omega) (by have := HO.out; have := HOK.out; have := HB.out; omega))
   have HR2 : Hid (Cuts bs A (cutA A' k c2) (o + k)) := Lib.hid (fun L' h => by
    have := Reads.cut (bs := bs.drop o) (n := n') (k := k) (c := c2) (HR.out L' h) (by rw [List.length_drop, HO.out.2.1, HN.out]) (by have := HO.out; have := HOK.out; omega) (by have := HO.out; have := HC.out; omega)
    rwa [List.drop_drop] at this)
   have HO2 : Hid (o + k = so szs (i + 1) ∧ n' - k = n - (o + k) ∧ c2 - k = c - (o + k)) := Lib.hid ⟨SS.out.symm, by have := HO.out; omega, by have := HO.out; omega⟩
   obtain ⟨V, hV⟩ : ∃ V, V = getL ((bs.drop o).take k) := ⟨_, rfl⟩
   rw [← hV] at C FS
   obtain ⟨gS, off, rfl⟩ : ∃ g off, S = some ⟨g, off, none⟩ := by
    obtain ⟨g, off, h, _⟩ := (hS w (fun a ha => hs.hold a (List.mem_cons_of_mem _ (List.mem_cons_of_mem _ ha)))).cells (by intro e; have := HB1.out; rw [e] at this; simp at this)
    exact ⟨g, off, h⟩
   have hm9 := hm9'.out
   clear hb SL hV hkm hk hil
   go_wp2_with (first | ((with_reducible refine Se.isL (o := ⟨some 15, _, _, _, _, _⟩) ?_); (refine Se.toL rfl (Se.ld (o := ⟨some 15, _, _, _, _, _⟩) hs rfl rfl (((hS.cons _).cons _).cell i HB1.out) (by kernel_rfl) ?_))) | ((with_reducible refine Se.isL (o := ⟨some 27, _, _, _, _, _⟩) ?_); (refine Se.toL rfl (Se.ap (o := ⟨some 27, _, _, _, _, _⟩) 2 hs rfl rfl rfl rfl ((Reads.blk 0 rfl)) Tryz.underlying97 u64i3 rfl (by decide) ((by simp [Value.oneCell'])) (rfl) ((by omega)) ((by omega)) ?_); clear hs; rintro w r' B' c'' hs; try simp only [List.cons_append, List.nil_append, List.set_cons_zero, List.set_cons_succ] at hs)) | (go_at_call 59; refine Calls.mono (C.out) ?_; clear hs; rintro e w ⟨g2, rfl, hs⟩))
   go_roundg (m - (i + 1))
   case measure => omega
   case rel =>
    refine ⟨i + 1, r', B', c'', _, _, _, _, rfl, by omega, by go_num, rfl, HO2, HR2, ?_⟩
    rw [FS.out, List.map_append]
    exact hs.drop.perm (List.Perm.swap _ _ _)
  ·obtain rfl : i = m := by omega
   have HE : o = szs.sum := by rw [HO.out.1]; unfold so; rw [List.take_of_length_le (by have := HM.out; omega)]
   obtain ⟨h1, h2, h3⟩ := HO.out
   subst h2 h3
   clear h1 HO
   have HE := Lib.hid HE
   go_wp2_with fail
   go_ret2
   rw [← HE.out]
   exact ⟨r, B, c', A', rfl, HR.out, hs⟩
set_option maxRecDepth 100000 in
set_option maxHeartbeats 4000000 in
theorem all_st {g : Nat} {A : Option Addr} {n c : Nat} {bs : Bs} (hs : St w0 X (rB g A n c 0 :: L) w) (hr : Reads L A (bs.map v8)) (hn : n = bs.length) (hb : n ≤ 1000) (hc : n ≤ c) (szs : List Nat) {S : Option Addr} {m cap : Nat} (hm : m = szs.length) (hm9 : m ≤ 100) (hS : Reads L S (szs.map fun (k : Nat) => Value.int .i64 (k : Int))) (hz : ∀ k ∈ szs, 1 ≤ k ∧ k ≤ 7) (ht : szs.sum ≤ n) :
  Calls Tryz.prog 47 #[.pointer (some ⟨g, 0, none⟩), .slice S m cap] w fun e w' => ∃ r2 A2 c2 A', e = .returned (.tuple #[.slice A2 m c2, .int .i64 0]) ∧ Cuts bs A A' szs.sum ∧ St w0 X (.own 1 r2 A2 m c2 ((fo bs szs m).map v64) :: rB g A' (n - szs.sum) (c - szs.sum) szs.sum :: L) w' := by
 have C : Hid (∀ (g6 : Nat) (w : World), St w0 X (rB g6 A n c 0 :: rB g A n c 0 :: L) w → Calls Tryz.prog 58 #[.slice S m cap, .func (.func 59) #[.pointer (some ⟨g6, 0, none⟩)] #[]] w fun e w' => ∃ r2 A2 c2 A', e = .returned (.tuple #[.slice A2 m c2, .int .i64 0]) ∧ Cuts bs A A' szs.sum ∧ St w0 X (.own 1 r2 A2 m c2 ((fo bs szs m).map v64) :: rB g6 A' (n - szs.sum) (c - szs.sum) szs.sum :: rB g A n c 0 :: L) w') := Lib.hid (fun g6 w hs => eachR_st hs (hr.cons _) hn hb hc szs hm hm9 (cap := cap) (hS.cons _) hz ht)
 clear hn hm hz ht hr hc hb
 obtain ⟨V, hV⟩ : ∃ V, V = (fo bs szs m).map v64 := ⟨_, rfl⟩
 obtain ⟨q, hq⟩ : ∃ q, q = szs.sum := ⟨_, rfl⟩
 rw [← hV, ← hq] at C ⊢
 clear hV hq
 go_enter Tryz.func47, Tryz.ntmps47
 go_wp2_with (first | ((with_reducible refine Se.isL (o := ⟨some 12, _, _, _, _, _⟩) ?_); (refine Se.toL rfl (Se.ldw (o := ⟨some 12, _, _, _, _, _⟩) hs rfl rfl ((Reads.blk 0 rfl)) ((by kernel_rfl)) (by kernel_rfl) ?_))) | ((with_reducible refine Se.isL (o := ⟨some 6, _, _, _, _, _⟩) ?_); (refine Se.toL rfl (Se.al (o := ⟨some 6, _, _, _, _, _⟩) hs rfl (readI) ?_); clear hs; rintro w g6 - hs)) | ((with_reducible refine Se.isL (o := ⟨none, _, _, _, _, _⟩) ?_); (refine Se.toL rfl (Se.sow 0 hs rfl rfl rfl rfl ((by simp [Value.oneCell'])) ((by kernel_rfl)) (rfl) ?_); clear hs; intro w hs; try simp only [List.cons_append, List.nil_append, List.set_cons_zero] at hs)) | ((with_reducible refine Se.isL (o := ⟨some 28, _, _, _, _, _⟩) ?_); (refine Se.toL rfl (Se.ldw (o := ⟨some 28, _, _, _, _, _⟩) hs rfl rfl ((Reads.blk 1 rfl)) ((by kernel_rfl)) (by kernel_rfl) ?_))) | ((with_reducible refine Se.isL (o := ⟨none, Op.store 114 _ _, _, _, _, _⟩) ?_); (refine Se.toL rfl (Se.sow 2 hs rfl rfl rfl rfl ((by simp [Value.oneCell'])) ((by kernel_rfl)) (rfl) ?_); clear hs; intro w hs; try simp only [List.cons_append, List.nil_append, List.set_cons_zero, List.set_cons_succ] at hs)) | (go_at_call 57; refine Calls.mono (state_any g _) ?_; rintro e w' ⟨rfl, rfl⟩) | (go_at_call 58; refine Calls.mono (C.out _ _ hs) ?_; clear hs; rintro e w ⟨r2, A2, c2, A', rfl, hrd, hs⟩))
 go_ret2
 refine ⟨r2, A2, c2, A', rfl, hrd, ?_⟩
 exact (hs.perm (List.Perm.swap _ _ _)).drop
set_option maxRecDepth 100000 in
set_option maxHeartbeats 4000000 in
theorem takeR_st {g : Nat} {A : Option Addr} {n c a k : Nat} {bs : Bs} (hs : St w0 X (rB g A n c a :: L) w) (hr : Reads L A (bs.map v8)) (hn : n = bs.length) (hk : k ≤ n) (hc : n ≤ c) (hb : n ≤ 1000) (ha : a ≤ 1000) :
  Calls Tryz.prog 48 #[.pointer (some ⟨g, 0, none⟩), .int .i64 k] w fun e w' => ∃ r2 A2 c2, e = .returned (.tuple #[.slice A2 k c2, .int .i64 0]) ∧ St w0 X (.own 1 r2 A2 k c2 ((bs.take k).map v8) :: rB g (cutA A k c) (n - k) (c - k) (a + k) :: L) w' := by
 have C := Lib.hid (take_st hs hr hn hk hc hb ha)
 have CC : Hid (∀ (w : World), St w0 X (rB g (cutA A k c) (n - k) (c - k) (a + k) :: L) w → Calls Tryz.prog 40 #[.slice A k k] w fun e w' => ∃ A' c' r', e = .returned (.slice A' k c') ∧ St w0 X (.own 1 r' A' k c' ((bs.take k).map v8) :: rB g (cutA A k c) (n - k) (c - k) (a + k) :: L) w') := Lib.hid (fun w hs => clone_st hs (by rw [List.map_take]; exact (hr.take k).cons _) (v8_one _) (by simp; omega) (by omega))
 clear hr hn hk hc hb ha
 go_enter Tryz.func48, Tryz.ntmps48
 go_wp2_with (first | (go_at_call 57; refine Calls.mono (state_any g _) ?_; rintro e w' ⟨rfl, rfl⟩) | (go_at_call 60; refine Calls.mono (C.out) ?_; clear hs; rintro e w ⟨rfl, hs⟩) | (go_at_call 40; refine Calls.mono (CC.out _ hs) ?_; clear hs; rintro e w ⟨A2, c2, r2, rfl, hs⟩))
 go_ret2
 exact ⟨r2, A2, c2, rfl, hs⟩
end Au
end Go.Proofs.YtakdoijemopejaaGreat

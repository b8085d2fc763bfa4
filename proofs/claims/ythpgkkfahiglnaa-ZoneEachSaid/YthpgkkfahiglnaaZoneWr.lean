/- Layer 28: writable. No condition but Go's own limits. Printed by wip/gen_zonewr.py. -/
import Derived.Test.YthpgkkfahiglnaaZoneOpens
set_option maxRecDepth 100000
set_option maxHeartbeats 4000000
set_option linter.unusedSimpArgs false
set_option linter.unusedVariables false
namespace Go.Proofs.Ythpgkkfahiglnaa
open Go Go.RowKit
namespace Zo
open Se (St At Reads Cell)
open Li (Rd Blk Fr)
variable {w0 w : World} {X : List Nat} {L : List At}
attribute [local irreducible] Calls
attribute [local go_sem] eql_nil
def WrR (w0 : World) (X : List Nat) (L : List At) (g cc : Nat) (a : Addr) (r : Option Nat) (z : Zs) (st : Nat) (e' : Ending) (w' : World) : Prop :=
 ((blkd st = 0 ∧ e' = .returned (.tuple #[])) ∨ (blkd st ≠ 0 ∧ e' = .panicked (chS (blkd st)))) ∧ St w0 X (pZ g z (some a) cc :: pL r (some a) cc z :: L) w'
theorem zWr : (Try.prog.info? 122).bind (fun i => i.zero.map (·.cells.toList)) = some [.int .i64 0, .int .u8 0] := by kernel_rfl
def warr : Array Value := #[.int .i64 14, .int .u8 185, .int .i64 13, .int .u8 186, .int .i64 15, .int .u8 187]
theorem wix0 (w : World) : (Instr.index 123 (.agg warr) (.int .i64 0)).run Try.prog w = .ok (.agg #[.int .i64 14, .int .u8 185]) w := by kernel_rfl
theorem wix1 (w : World) : (Instr.index 123 (.agg warr) (.int .i64 1)).run Try.prog w = .ok (.agg #[.int .i64 13, .int .u8 186]) w := by kernel_rfl
theorem wix2 (w : World) : (Instr.index 123 (.agg warr) (.int .i64 2)).run Try.prog w = .ok (.agg #[.int .i64 15, .int .u8 187]) w := by kernel_rfl
theorem writable_st {g cc : Nat} {z : Zs} {a : Addr} {r : Option Nat} (hs : St w0 X (pZ g z (some a) cc :: pL r (some a) cc z :: L) w) (ho : OkZ z) {i : Nat} (hi : i < z.l.length) {st : Nat} (hst0 : st = (z.l.getD i dz).st) :
  Calls Try.prog 38 #[.pointer (some ⟨g, 0, none⟩), .int .i64 (i : Int)] w fun e' w' => True ∧ WrR w0 X L g cc a r z st e' w' := by
 obtain ⟨ga, oa, ha, hr⟩ := hs.own_at 1 rfl (by omega)
 obtain rfl : a = ⟨ga, oa, none⟩ := by simpa using ha
 subst hr
 clear ha
 obtain ⟨RL, hRL⟩ : ∃ RL, RL = zcl z (some ⟨ga, oa, none⟩) cc := ⟨_, rfl⟩
 obtain ⟨k, hk⟩ : ∃ n, n = z.l.length := ⟨_, rfl⟩
 have hk1 : k ≤ 4096 := by rw [hk, ho.1]; exact ho.2.2.1
 have R5 := Lib.hid (show RL[5]? = some (.slice (some ⟨ga, oa, none⟩) k cc) by rw [hRL, hk]; rfl)
 obtain ⟨l, hl⟩ : ∃ l, l = z.l := ⟨_, rfl⟩
 rw [← hl] at hk hi hst0
 have hgd : l.getD i dz = l[i] := by rw [List.getD_eq_getElem?_getD, List.getElem?_eq_getElem hi]; rfl
 have e1 : pZ g z (some ⟨ga, oa, none⟩) cc = .blk g 71 RL := by rw [hRL]
 have e2 : pL (some ga) (some ⟨ga, oa, none⟩) cc z = .own 3 (some ga) (some ⟨ga, oa, none⟩) k cc (ocs l) := by unfold pL; rw [← hl, ← hk]
 have CST : Hid (∀ (M : List At) (w : World), St w0 X (M ++ (.blk g 71 RL :: .own 3 (some ga) (some ⟨ga, oa, none⟩) k cc (ocs l) :: L)) w → w.cell? ⟨ga, oa + i * 3, none⟩ = some (iv st)) := Lib.hid (fun M w hs => by
  have h := ocs_at l i hi 0 (by decide)
  rw [Nat.add_zero] at h
  exact ((((Reads.own 1 rfl : Reads (.blk g 71 RL :: .own 3 (some ga) (some ⟨ga, oa, none⟩) k cc (ocs l) :: L) _ _).cell (i * 3) (v := iv st) (by rw [h, hst0, hgd]; rfl)))) w (fun a ha => hs.hold a (List.mem_append.2 (.inr ha))))
 have FIN : Hid (∀ (e' : Ending) (w : World), ((blkd st = 0 ∧ e' = .returned (.tuple #[])) ∨ (blkd st ≠ 0 ∧ e' = .panicked (chS (blkd st)))) → St w0 X (.blk g 71 RL :: .own 3 (some ga) (some ⟨ga, oa, none⟩) k cc (ocs l) :: L) w → WrR w0 X L g cc ⟨ga, oa, none⟩ (some ga) z st e' w) := Lib.hid (fun e' w h hs => by
  rw [← e1, ← e2] at hs
  exact ⟨h, hs⟩)
 rw [e1, e2] at hs
 have hik : (i : Int) < (k : Int) := by omega
 have ix0 := wix0
 have ix1 := wix1
 have ix2 := wix2
 unfold warr at ix0 ix1 ix2
 clear hRL hk hl hgd e1 e2 ho hi hst0
 go_enter Try.func38, Try.ntmps38
 go_wp2_with fail
 go_loopg [10] 3 (fun gh s10 wr => ∃ j : Nat, gh = 3 - j ∧ j ≤ 3 ∧ s10 = .int .i64 (j : Int) ∧ Hid ((0 < j → st ≠ 14) ∧ (1 < j → st ≠ 13) ∧ (2 < j → st ≠ 15)) ∧ St w0 X (.blk g 71 RL :: .own 3 (some ga) (some ⟨ga, oa, none⟩) k cc (ocs l) :: L) wr)
 case atStart => exact ⟨0, rfl, by omega, rfl, Lib.hid ⟨by omega, by omega, by omega⟩, hs⟩
 case round =>
  clear hs
  rename World => w
  obtain ⟨j, rfl, hj, rfl, HJ, hs⟩ := hrel
  have hjc : j = 0 ∨ j = 1 ∨ j = 2 ∨ j = 3 := by omega
  rcases hjc with rfl | rfl | rfl | rfl
  ·by_cases hq : st = 14
   ·have f1 : ((st : Int) != 14) = false := by simp; omega
    have HB := Lib.hid (show blkd st = 185 by rw [hq]; rfl)
    clear hq
    go_upto_region 3 with (first | ((with_reducible refine Se.isL (o := ⟨some 5, _, _, _, _, _⟩) ?_); (refine Se.toL rfl (Se.al (o := ⟨some 5, _, _, _, _, _⟩) hs rfl (zWr) ?_); clear hs; rintro w g5 - hs)) | ((with_reducible refine Se.isL (o := ⟨none, _, _, _, _, _⟩) ?_); (refine Se.toL rfl (Se.sow 0 hs rfl rfl rfl rfl ((by simp [Value.oneCell'])) ((by kernel_rfl)) (rfl) ?_); clear hs; intro w hs; try simp only [List.cons_append, List.nil_append, List.set_cons_zero] at hs)))
    refine Ch.region' 13 (fun wx => (Blk wx g RL 71 ∧ wx.cell? ⟨ga, oa + i * 3, none⟩ = some (iv st)) ∧ Blk wx g5 [.int .i64 14, .int .u8 185] 122) (fun  | _ => false) (by kernel_rfl) (by decide +kernel) (⟨⟨hs.drew.hold (.blk g 71 RL) (by simp), CST.out [_] _ hs.drew⟩, hs.drew.hold (.blk g5 122 [.int .i64 14, .int .u8 185]) (by simp)⟩) ?_
    replace hs := hs.drew
    generalize w.drew = w at hs ⊢
    change Ch.CW _ _ _ _ _ [0, 1, 2, 3, 4, 5, 6, 7, 8, 9, 10, 11, 12] _ _
    iterate 13 ((first | (refine Ch.pure (v := ?_) (by rfl) (by rfl) (by rfl) (fun wx hS => ?_) ?_; rotate_left; (focus (go_simp; (first | done | with_reducible rfl)))) | refine Ch.pure (v := _) (by rfl) (by rfl) (by rfl) (fun wx hS => Se.xl rfl rfl (by rw [hS.1.1.cell]; exact R5.out) (by decide +kernel)) ?_ | refine Ch.pure (v := _) (by rfl) (by rfl) (by rfl) (fun wx hS => Se.xl rfl rfl hS.1.2 (by decide +kernel)) ?_ | refine Ch.pure (v := _) (by rfl) (by rfl) (by rfl) (fun wx hS => Se.xl rfl rfl (by rw [hS.2.cell]; rfl) (by decide +kernel)) ?_); (try simp only [Act.put, List.setIfInBounds_toArray, List.set_cons_zero, List.set_cons_succ]))
    refine Ch.done ?_
    try simp only [List.drop_succ_cons, List.drop_zero]
    go_wp2_with (first | (go_at_call 36; refine Calls.mono (must_f hs 185 (by decide)) ?_; clear hs; rintro e w ⟨rfl, hs⟩))
    exact ⟨rfl, trivial, FIN.out _ _ (.inr ⟨by rw [HB.out]; decide, by rw [HB.out]⟩) hs.drop⟩
   ·have f1 : ((st : Int) != 14) = true := by simp; omega
    have HQ := Lib.hid hq
    clear hq
    go_upto_region 3 with (first | ((with_reducible refine Se.isL (o := ⟨some 5, _, _, _, _, _⟩) ?_); (refine Se.toL rfl (Se.al (o := ⟨some 5, _, _, _, _, _⟩) hs rfl (zWr) ?_); clear hs; rintro w g5 - hs)) | ((with_reducible refine Se.isL (o := ⟨none, _, _, _, _, _⟩) ?_); (refine Se.toL rfl (Se.sow 0 hs rfl rfl rfl rfl ((by simp [Value.oneCell'])) ((by kernel_rfl)) (rfl) ?_); clear hs; intro w hs; try simp only [List.cons_append, List.nil_append, List.set_cons_zero] at hs)))
    refine Ch.region' 13 (fun wx => (Blk wx g RL 71 ∧ wx.cell? ⟨ga, oa + i * 3, none⟩ = some (iv st)) ∧ Blk wx g5 [.int .i64 14, .int .u8 185] 122) (fun  | _ => false) (by kernel_rfl) (by decide +kernel) (⟨⟨hs.drew.hold (.blk g 71 RL) (by simp), CST.out [_] _ hs.drew⟩, hs.drew.hold (.blk g5 122 [.int .i64 14, .int .u8 185]) (by simp)⟩) ?_
    replace hs := hs.drew
    generalize w.drew = w at hs ⊢
    change Ch.CW _ _ _ _ _ [0, 1, 2, 3, 4, 5, 6, 7, 8, 9, 10, 11, 12] _ _
    iterate 13 ((first | (refine Ch.pure (v := ?_) (by rfl) (by rfl) (by rfl) (fun wx hS => ?_) ?_; rotate_left; (focus (go_simp; (first | done | with_reducible rfl)))) | refine Ch.pure (v := _) (by rfl) (by rfl) (by rfl) (fun wx hS => Se.xl rfl rfl (by rw [hS.1.1.cell]; exact R5.out) (by decide +kernel)) ?_ | refine Ch.pure (v := _) (by rfl) (by rfl) (by rfl) (fun wx hS => Se.xl rfl rfl hS.1.2 (by decide +kernel)) ?_ | refine Ch.pure (v := _) (by rfl) (by rfl) (by rfl) (fun wx hS => Se.xl rfl rfl (by rw [hS.2.cell]; rfl) (by decide +kernel)) ?_); (try simp only [Act.put, List.setIfInBounds_toArray, List.set_cons_zero, List.set_cons_succ]))
    refine Ch.done ?_
    try simp only [List.drop_succ_cons, List.drop_zero]
    go_wp2_with (first | (go_at_call 36; refine Calls.mono (must_t hs 185) ?_; clear hs; rintro e w ⟨rfl, hs⟩))
    go_roundg (3 - (0 + 1))
    case measure => omega
    case rel => exact ⟨0 + 1, rfl, by omega, by go_num, Lib.hid (by have h1 := HJ.out; have h2 := HQ.out; refine ⟨?_, ?_, ?_⟩ <;> omega), hs.drop⟩
  ·by_cases hq : st = 13
   ·have f1 : ((st : Int) != 13) = false := by simp; omega
    have HB := Lib.hid (show blkd st = 186 by rw [hq]; rfl)
    clear hq
    go_upto_region 3 with (first | ((with_reducible refine Se.isL (o := ⟨some 5, _, _, _, _, _⟩) ?_); (refine Se.toL rfl (Se.al (o := ⟨some 5, _, _, _, _, _⟩) hs rfl (zWr) ?_); clear hs; rintro w g5 - hs)) | ((with_reducible refine Se.isL (o := ⟨none, _, _, _, _, _⟩) ?_); (refine Se.toL rfl (Se.sow 0 hs rfl rfl rfl rfl ((by simp [Value.oneCell'])) ((by kernel_rfl)) (rfl) ?_); clear hs; intro w hs; try simp only [List.cons_append, List.nil_append, List.set_cons_zero] at hs)))
    refine Ch.region' 13 (fun wx => (Blk wx g RL 71 ∧ wx.cell? ⟨ga, oa + i * 3, none⟩ = some (iv st)) ∧ Blk wx g5 [.int .i64 13, .int .u8 186] 122) (fun  | _ => false) (by kernel_rfl) (by decide +kernel) (⟨⟨hs.drew.hold (.blk g 71 RL) (by simp), CST.out [_] _ hs.drew⟩, hs.drew.hold (.blk g5 122 [.int .i64 13, .int .u8 186]) (by simp)⟩) ?_
    replace hs := hs.drew
    generalize w.drew = w at hs ⊢
    change Ch.CW _ _ _ _ _ [0, 1, 2, 3, 4, 5, 6, 7, 8, 9, 10, 11, 12] _ _
    iterate 13 ((first | (refine Ch.pure (v := ?_) (by rfl) (by rfl) (by rfl) (fun wx hS => ?_) ?_; rotate_left; (focus (go_simp; (first | done | with_reducible rfl)))) | refine Ch.pure (v := _) (by rfl) (by rfl) (by rfl) (fun wx hS => Se.xl rfl rfl (by rw [hS.1.1.cell]; exact R5.out) (by decide +kernel)) ?_ | refine Ch.pure (v := _) (by rfl) (by rfl) (by rfl) (fun wx hS => Se.xl rfl rfl hS.1.2 (by decide +kernel)) ?_ | refine Ch.pure (v := _) (by rfl) (by rfl) (by rfl) (fun wx hS => Se.xl rfl rfl (by rw [hS.2.cell]; rfl) (by decide +kernel)) ?_); (try simp only [Act.put, List.setIfInBounds_toArray, List.set_cons_zero, List.set_cons_succ]))
    refine Ch.done ?_
    try simp only [List.drop_succ_cons, List.drop_zero]
    go_wp2_with (first | (go_at_call 36; refine Calls.mono (must_f hs 186 (by decide)) ?_; clear hs; rintro e w ⟨rfl, hs⟩))
    exact ⟨rfl, trivial, FIN.out _ _ (.inr ⟨by rw [HB.out]; decide, by rw [HB.out]⟩) hs.drop⟩
   ·have f1 : ((st : Int) != 13) = true := by simp; omega
    have HQ := Lib.hid hq
    clear hq
    go_upto_region 3 with (first | ((with_reducible refine Se.isL (o := ⟨some 5, _, _, _, _, _⟩) ?_); (refine Se.toL rfl (Se.al (o := ⟨some 5, _, _, _, _, _⟩) hs rfl (zWr) ?_); clear hs; rintro w g5 - hs)) | ((with_reducible refine Se.isL (o := ⟨none, _, _, _, _, _⟩) ?_); (refine Se.toL rfl (Se.sow 0 hs rfl rfl rfl rfl ((by simp [Value.oneCell'])) ((by kernel_rfl)) (rfl) ?_); clear hs; intro w hs; try simp only [List.cons_append, List.nil_append, List.set_cons_zero] at hs)))
    refine Ch.region' 13 (fun wx => (Blk wx g RL 71 ∧ wx.cell? ⟨ga, oa + i * 3, none⟩ = some (iv st)) ∧ Blk wx g5 [.int .i64 13, .int .u8 186] 122) (fun  | _ => false) (by kernel_rfl) (by decide +kernel) (⟨⟨hs.drew.hold (.blk g 71 RL) (by simp), CST.out [_] _ hs.drew⟩, hs.drew.hold (.blk g5 122 [.int .i64 13, .int .u8 186]) (by simp)⟩) ?_
    replace hs := hs.drew
    generalize w.drew = w at hs ⊢
    change Ch.CW _ _ _ _ _ [0, 1, 2, 3, 4, 5, 6, 7, 8, 9, 10, 11, 12] _ _
    iterate 13 ((first | (refine Ch.pure (v := ?_) (by rfl) (by rfl) (by rfl) (fun wx hS => ?_) ?_; rotate_left; (focus (go_simp; (first | done | with_reducible rfl)))) | refine Ch.pure (v := _) (by rfl) (by rfl) (by rfl) (fun wx hS => Se.xl rfl rfl (by rw [hS.1.1.cell]; exact R5.out) (by decide +kernel)) ?_ | refine Ch.pure (v := _) (by rfl) (by rfl) (by rfl) (fun wx hS => Se.xl rfl rfl hS.1.2 (by decide +kernel)) ?_ | refine Ch.pure (v := _) (by rfl) (by rfl) (by rfl) (fun wx hS => Se.xl rfl rfl (by rw [hS.2.cell]; rfl) (by decide +kernel)) ?_); (try simp only [Act.put, List.setIfInBounds_toArray, List.set_cons_zero, List.set_cons_succ]))
    refine Ch.done ?_
    try simp only [List.drop_succ_cons, List.drop_zero]
    go_wp2_with (first | (go_at_call 36; refine Calls.mono (must_t hs 186) ?_; clear hs; rintro e w ⟨rfl, hs⟩))
    go_roundg (3 - (1 + 1))
    case measure => omega
    case rel => exact ⟨1 + 1, rfl, by omega, by go_num, Lib.hid (by have h1 := HJ.out; have h2 := HQ.out; refine ⟨?_, ?_, ?_⟩ <;> omega), hs.drop⟩
  ·by_cases hq : st = 15
   ·have f1 : ((st : Int) != 15) = false := by simp; omega
    have HB := Lib.hid (show blkd st = 187 by rw [hq]; rfl)
    clear hq
    go_upto_region 3 with (first | ((with_reducible refine Se.isL (o := ⟨some 5, _, _, _, _, _⟩) ?_); (refine Se.toL rfl (Se.al (o := ⟨some 5, _, _, _, _, _⟩) hs rfl (zWr) ?_); clear hs; rintro w g5 - hs)) | ((with_reducible refine Se.isL (o := ⟨none, _, _, _, _, _⟩) ?_); (refine Se.toL rfl (Se.sow 0 hs rfl rfl rfl rfl ((by simp [Value.oneCell'])) ((by kernel_rfl)) (rfl) ?_); clear hs; intro w hs; try simp only [List.cons_append, List.nil_append, List.set_cons_zero] at hs)))
    refine Ch.region' 13 (fun wx => (Blk wx g RL 71 ∧ wx.cell? ⟨ga, oa + i * 3, none⟩ = some (iv st)) ∧ Blk wx g5 [.int .i64 15, .int .u8 187] 122) (fun  | _ => false) (by kernel_rfl) (by decide +kernel) (⟨⟨hs.drew.hold (.blk g 71 RL) (by simp), CST.out [_] _ hs.drew⟩, hs.drew.hold (.blk g5 122 [.int .i64 15, .int .u8 187]) (by simp)⟩) ?_
    replace hs := hs.drew
    generalize w.drew = w at hs ⊢
    change Ch.CW _ _ _ _ _ [0, 1, 2, 3, 4, 5, 6, 7, 8, 9, 10, 11, 12] _ _
    iterate 13 ((first | (refine Ch.pure (v := ?_) (by rfl) (by rfl) (by rfl) (fun wx hS => ?_) ?_; rotate_left; (focus (go_simp; (first | done | with_reducible rfl)))) | refine Ch.pure (v := _) (by rfl) (by rfl) (by rfl) (fun wx hS => Se.xl rfl rfl (by rw [hS.1.1.cell]; exact R5.out) (by decide +kernel)) ?_ | refine Ch.pure (v := _) (by rfl) (by rfl) (by rfl) (fun wx hS => Se.xl rfl rfl hS.1.2 (by decide +kernel)) ?_ | refine Ch.pure (v := _) (by rfl) (by rfl) (by rfl) (fun wx hS => Se.xl rfl rfl (by rw [hS.2.cell]; rfl) (by decide +kernel)) ?_); (try simp only [Act.put, List.setIfInBounds_toArray, List.set_cons_zero, List.set_cons_succ]))
    refine Ch.done ?_
    try simp only [List.drop_succ_cons, List.drop_zero]
    go_wp2_with (first | (go_at_call 36; refine Calls.mono (must_f hs 187 (by decide)) ?_; clear hs; rintro e w ⟨rfl, hs⟩))
    exact ⟨rfl, trivial, FIN.out _ _ (.inr ⟨by rw [HB.out]; decide, by rw [HB.out]⟩) hs.drop⟩
   ·have f1 : ((st : Int) != 15) = true := by simp; omega
    have HQ := Lib.hid hq
    clear hq
    go_upto_region 3 with (first | ((with_reducible refine Se.isL (o := ⟨some 5, _, _, _, _, _⟩) ?_); (refine Se.toL rfl (Se.al (o := ⟨some 5, _, _, _, _, _⟩) hs rfl (zWr) ?_); clear hs; rintro w g5 - hs)) | ((with_reducible refine Se.isL (o := ⟨none, _, _, _, _, _⟩) ?_); (refine Se.toL rfl (Se.sow 0 hs rfl rfl rfl rfl ((by simp [Value.oneCell'])) ((by kernel_rfl)) (rfl) ?_); clear hs; intro w hs; try simp only [List.cons_append, List.nil_append, List.set_cons_zero] at hs)))
    refine Ch.region' 13 (fun wx => (Blk wx g RL 71 ∧ wx.cell? ⟨ga, oa + i * 3, none⟩ = some (iv st)) ∧ Blk wx g5 [.int .i64 15, .int .u8 187] 122) (fun  | _ => false) (by kernel_rfl) (by decide +kernel) (⟨⟨hs.drew.hold (.blk g 71 RL) (by simp), CST.out [_] _ hs.drew⟩, hs.drew.hold (.blk g5 122 [.int .i64 15, .int .u8 187]) (by simp)⟩) ?_
    replace hs := hs.drew
    generalize w.drew = w at hs ⊢
    change Ch.CW _ _ _ _ _ [0, 1, 2, 3, 4, 5, 6, 7, 8, 9, 10, 11, 12] _ _
    iterate 13 ((first | (refine Ch.pure (v := ?_) (by rfl) (by rfl) (by rfl) (fun wx hS => ?_) ?_; rotate_left; (focus (go_simp; (first | done | with_reducible rfl)))) | refine Ch.pure (v := _) (by rfl) (by rfl) (by rfl) (fun wx hS => Se.xl rfl rfl (by rw [hS.1.1.cell]; exact R5.out) (by decide +kernel)) ?_ | refine Ch.pure (v := _) (by rfl) (by rfl) (by rfl) (fun wx hS => Se.xl rfl rfl hS.1.2 (by decide +kernel)) ?_ | refine Ch.pure (v := _) (by rfl) (by rfl) (by rfl) (fun wx hS => Se.xl rfl rfl (by rw [hS.2.cell]; rfl) (by decide +kernel)) ?_); (try simp only [Act.put, List.setIfInBounds_toArray, List.set_cons_zero, List.set_cons_succ]))
    refine Ch.done ?_
    try simp only [List.drop_succ_cons, List.drop_zero]
    go_wp2_with (first | (go_at_call 36; refine Calls.mono (must_t hs 187) ?_; clear hs; rintro e w ⟨rfl, hs⟩))
    go_roundg (3 - (2 + 1))
    case measure => omega
    case rel => exact ⟨2 + 1, rfl, by omega, by go_num, Lib.hid (by have h1 := HJ.out; have h2 := HQ.out; refine ⟨?_, ?_, ?_⟩ <;> omega), hs.drop⟩
  ·have HB := Lib.hid (show blkd st = 0 by have h := HJ.out; unfold blkd; rw [if_neg (h.1 (by omega)), if_neg (h.2.1 (by omega)), if_neg (h.2.2 (by omega))])
   go_wp2_with fail
   go_end0
   first | exact FIN.out _ _ (.inl ⟨HB.out, rfl⟩) hs | exact ⟨trivial, FIN.out _ _ (.inl ⟨HB.out, rfl⟩) hs⟩
end Zo
end Go.Proofs.Ythpgkkfahiglnaa


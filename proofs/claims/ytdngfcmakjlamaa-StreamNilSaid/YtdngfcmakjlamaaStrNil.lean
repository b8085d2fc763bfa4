/- Layer 36: nil and zero receivers, the law StreamNil. No condition but Go's own limits. Printed by wip/gen_strnil.py. -/
import Derived.Test.YtdngfcmakjlamaaStrKnown
set_option linter.unusedSimpArgs false
set_option linter.unusedVariables false
namespace Go.Proofs.Ytdngfcmakjlamaa
open Go Go.RowKit
namespace Sr
open Pd (Fm PDU meas dec framed pc iv fl fv encE)
open Se (St At Reads Cell)
open Li (v8 v8_one Rd Blk Fr)
open Bv (n8 n16 n32 n64)
variable {w0 w : World} {X : List Nat} {L : List At}
attribute [local irreducible] Calls
def zrc : List Value := rcl { f := ⟨false, false, 0⟩, mo := 0 } none 0
/-- A receiver that is none. -/
def NilV (L : List At) (v : Value) : Prop := v = .pointer none ∨ ∃ g, v = .pointer (some ⟨g, 0, none⟩) ∧ At.blk g 67 zrc ∈ L
theorem NilV.mono {L' : List At} {v : Value} (h : NilV L v) (hm : ∀ a ∈ L, a ∈ L') : NilV L' v := by
 rcases h with h | ⟨g, h, h2⟩
 ·exact .inl h
 ·exact .inr ⟨g, h, hm _ h2⟩
theorem cell_mem {g i : Nat} {t : TypeId} {l : List Value} {v : Value} (h : At.blk g t l ∈ L) (hv : l[i]? = some v) : Cell L g i v := Reads.cell0 (fun _ hw => Rd.of_blk (hw _ h)) i hv
set_option maxRecDepth 100000 in
set_option maxHeartbeats 4000000 in
theorem none_nil (hs : St w0 X L w) {v : Value} (hv : NilV L v) : Calls Try.prog 48 #[v] w fun e w' => e = .returned (.bool true) ∧ St w0 X L w' := by
 rcases hv with rfl | ⟨g, rfl, hm⟩
 ·go_enter Try.func48, Try.ntmps48
  go_wp2_with fail
  go_ret
  exact ⟨rfl, hs⟩
 ·have C3 := Lib.hid (cell_mem hm (i := 3) (v := .int .i64 0) rfl)
  clear hm
  go_enter Try.func48, Try.ntmps48
  go_wp2_with (first | ((with_reducible refine Se.isL (o := ⟨some 9, _, _, _, _, _⟩) ?_); (refine Se.toL rfl (Se.ld (o := ⟨some 9, _, _, _, _, _⟩) hs rfl rfl (C3.out) (by kernel_rfl) ?_))))
  go_ret
  exact ⟨rfl, hs⟩
set_option maxRecDepth 100000 in
set_option maxHeartbeats 4000000 in
theorem ready_nil (hs : St w0 X L w) {v : Value} (hv : NilV L v) : Calls Try.prog 30 #[v] w fun e w' => e = .returned (iv 1) ∧ St w0 X L w' := by
 have HV := Lib.hid hv
 clear hv
 go_enter Try.func30, Try.ntmps30
 go_wp2_with (first | (go_at_call 48; refine Calls.mono (none_nil hs HV.out) ?_; clear hs; rintro e w ⟨rfl, hs⟩))
 go_ret
 exact ⟨rfl, hs⟩
set_option maxRecDepth 100000 in
set_option maxHeartbeats 4000000 in
theorem held_nil (hs : St w0 X L w) {v : Value} (hv : NilV L v) : Calls Try.prog 20 #[v] w fun e w' => e = .returned (iv 0) ∧ St w0 X L w' := by
 rcases hv with rfl | ⟨g, rfl, hm⟩
 ·go_enter Try.func20, Try.ntmps20
  go_wp2_with fail
  go_ret
  exact ⟨rfl, hs⟩
 ·have C2 := Lib.hid (cell_mem hm (i := 4) (v := .slice none 0 0) rfl)
  clear hm
  go_enter Try.func20, Try.ntmps20
  go_wp2_with (first | ((with_reducible refine Se.isL (o := ⟨some 8, _, _, _, _, _⟩) ?_); (refine Se.toL rfl (Se.ld (o := ⟨some 8, _, _, _, _, _⟩) hs rfl rfl (C2.out) (by kernel_rfl) ?_))))
  go_ret
  exact ⟨rfl, hs⟩
set_option maxRecDepth 100000 in
set_option maxHeartbeats 4000000 in
theorem consumed_nil (hs : St w0 X L w) {v : Value} (hv : NilV L v) : Calls Try.prog 18 #[v] w fun e w' => e = .returned (.tuple #[iv 0, iv 0]) ∧ St w0 X L w' := by
 rcases hv with rfl | ⟨g, rfl, hm⟩
 ·go_enter Try.func18, Try.ntmps18
  go_wp2_with fail
  go_ret2
  exact ⟨rfl, hs⟩
 ·have C6 := Lib.hid (cell_mem hm (i := 6) (v := .int .i64 0) rfl)
  have C7 := Lib.hid (cell_mem hm (i := 7) (v := .int .i64 0) rfl)
  clear hm
  go_enter Try.func18, Try.ntmps18
  go_upto_region 3 with (fail)
  refine Ch.region' 10 (fun wx => wx.cell? ⟨g, 6, none⟩ = some (.int .i64 0) ∧ wx.cell? ⟨g, 7, none⟩ = some (.int .i64 0)) (fun  | _ => false) (by kernel_rfl) (by decide +kernel) (⟨C6.out _ hs.drew.hold, C7.out _ hs.drew.hold⟩) ?_
  replace hs := hs.drew
  generalize w.drew = w at hs ⊢
  change Ch.CW _ _ _ _ _ [0, 1, 2, 3, 4, 5, 6, 7, 8, 9] _ _
  iterate 10 ((first | (refine Ch.pure (v := ?_) (by rfl) (by rfl) (by rfl) (fun wx hS => ?_) ?_; rotate_left; (focus (go_simp; (first | done | with_reducible rfl)))) | refine Ch.pure (v := _) (by rfl) (by rfl) (by rfl) (fun wx hS => Se.xl rfl rfl hS.1 (by decide +kernel)) ?_ | refine Ch.pure (v := _) (by rfl) (by rfl) (by rfl) (fun wx hS => Se.xl rfl rfl hS.2 (by decide +kernel)) ?_); (try simp only [Act.put, List.setIfInBounds_toArray, List.set_cons_zero, List.set_cons_succ]))
  refine Ch.done ?_
  try simp only [List.drop_succ_cons, List.drop_zero]
  go_wp2_with fail
  go_ret2
  exact ⟨rfl, hs⟩
set_option maxRecDepth 100000 in
set_option maxHeartbeats 4000000 in
theorem add_nil (hs : St w0 X L w) {v : Value} (hv : NilV L v) (A : Option Addr) (n c : Nat) : Calls Try.prog 11 #[v, .slice A n c] w fun e w' => e = .returned (iv 1) ∧ St w0 X L w' := by
 have HV := Lib.hid hv
 clear hv
 go_enter Try.func11, Try.ntmps11
 go_wp2_with (first | (go_at_call 30; refine Calls.mono (ready_nil hs HV.out) ?_; clear hs; rintro e w ⟨rfl, hs⟩))
 go_ret
 exact ⟨rfl, hs⟩
set_option maxRecDepth 100000 in
set_option maxHeartbeats 4000000 in
theorem reframe_nil (hs : St w0 X L w) {v : Value} (hv : NilV L v) (F : Array Value) : Calls Try.prog 27 #[v, .agg F] w fun e w' => e = .returned (iv 1) ∧ St w0 X L w' := by
 have HV := Lib.hid hv
 clear hv
 go_enter Try.func27, Try.ntmps27
 go_wp2_with (first | ((first | with_reducible refine Se.ab hs ?_ | with_reducible refine Se.abc hs ?_); clear hs; (first | (generalize w.heap.size = g3; intro w hs))) | (go_at_call 30; refine Calls.mono (ready_nil hs (HV.out.mono (fun _ h => List.mem_cons_of_mem _ h))) ?_; clear hs; rintro e w ⟨rfl, hs⟩))
 go_ret
 exact ⟨rfl, hs.drop⟩
set_option maxRecDepth 100000 in
set_option maxHeartbeats 4000000 in
theorem copy_nil (hs : St w0 X L w) {v : Value} (hv : NilV L v) : Calls Try.prog 25 #[v] w fun e w' => e = .returned (.pointer none) ∧ St w0 X L w' := by
 have HV := Lib.hid hv
 clear hv
 go_enter Try.func25, Try.ntmps25
 go_wp2_with (first | (go_at_call 48; refine Calls.mono (none_nil hs HV.out) ?_; clear hs; rintro e w ⟨rfl, hs⟩))
 go_ret
 exact ⟨rfl, hs⟩
set_option maxRecDepth 100000 in
set_option maxRecDepth 100000 in
set_option maxHeartbeats 4000000 in
theorem next_nil (hs : St w0 X L w) {v : Value} (hv : NilV L v) : Calls Try.prog 19 #[v] w fun e' w' => e' = .returned (.tuple #[.agg (pc {} none 0 0 none 0 0).toArray, iv 1]) ∧ St w0 X L w' := by
 obtain ⟨Z, hZ⟩ : ∃ Z, Z = pc {} none 0 0 none 0 0 := ⟨_, rfl⟩
 have ZL := Lib.hid (show Z.length = 14 by rw [hZ]; rfl)
 have ZO := Lib.hid (show ∀ v ∈ Z, v.oneCell' = true by rw [hZ]; exact Pd.pc_one _ _ _ _ _ _ _)
 have HZ : Hid ((Try.prog.info? 41).bind (fun i => i.zero.map (·.cells.toList)) = some Z) := Lib.hid (by rw [hZ]; exact zP0)
 have HV := Lib.hid hv
 rw [← hZ]
 clear hZ hv
 refine Se.enterM Try.func19 rfl ?_
 simp only [Try.ntmps19, List.size_toArray, List.length_cons, List.length_nil, Nat.reduceAdd, Nat.reduceSub, Array.replicate_succ, Array.replicate_zero, List.push_toArray, List.append_toArray, List.nil_append, List.cons_append]
 go_upto_region 1 with (first | ((with_reducible refine Se.isL (o := ⟨some 2, _, _, _, _, _⟩) ?_); (refine Se.toL rfl (Se.al (o := ⟨some 2, _, _, _, _, _⟩) hs rfl (HZ.out) ?_); clear hs; rintro w g2 - hs)) | ((with_reducible refine Se.isL (o := ⟨some 3, _, _, _, _, _⟩) ?_); (refine Se.toL rfl (Se.al (o := ⟨some 3, _, _, _, _, _⟩) hs rfl (zE) ?_); clear hs; rintro w g3 - hs)))
 refine wp_scope_straight ?_
 go_wp2_with (first | ((with_reducible refine Se.isL (o := ⟨some 10, _, _, _, _, _⟩) ?_); (refine Se.toL rfl (Se.ldw (o := ⟨some 10, _, _, _, _, _⟩) hs rfl rfl ((Reads.blk 1 rfl)) ((by rw [ZL.out]; kernel_rfl)) (by kernel_rfl) ?_))) | ((with_reducible refine Se.isL (o := ⟨none, _, _, _, _, _⟩) ?_); (refine Se.toL rfl (Se.sow 1 hs rfl rfl rfl rfl (ZO.out) ((by rw [ZL.out]; kernel_rfl)) ((by rw [ZL.out])) ?_); clear hs; intro w hs; try simp only [List.cons_append, List.nil_append, List.set_cons_zero, List.set_cons_succ] at hs)) | ((with_reducible refine Se.isL (o := ⟨none, _, _, _, _, _⟩) ?_); ((first | refine Se.toL rfl (Se.so 0 (v := .int _ _) hs rfl rfl rfl rfl rfl (by kernel_rfl) (by simp) ?_) | refine Se.toL rfl (Se.so 0 (v := .bool _) hs rfl rfl rfl rfl rfl (by kernel_rfl) (by simp) ?_) | refine Se.toL rfl (Se.so 0 (v := .slice _ _ _) hs rfl rfl rfl rfl rfl (by kernel_rfl) (by simp) ?_) | refine Se.toL rfl (Se.so 0 (v := .pointer _) hs rfl rfl rfl rfl rfl (by kernel_rfl) (by simp) ?_) | refine Se.toL rfl (Se.so 0 (v := .string _) hs rfl rfl rfl rfl rfl (by kernel_rfl) (by simp) ?_) | refine Se.toL rfl (Se.so 0 (v := .map _) hs rfl rfl rfl rfl rfl (by kernel_rfl) (by simp) ?_) | refine Se.toL rfl (Se.so 0 (v := .func _ _ _) hs rfl rfl rfl rfl rfl (by kernel_rfl) (by simp) ?_) | refine Se.toL rfl (Se.so 0 (v := .nilFunc) hs rfl rfl rfl rfl rfl (by kernel_rfl) (by simp) ?_)); clear hs; intro w hs; try simp only [List.cons_append, List.nil_append, List.set_cons_zero] at hs)) | (go_at_call 30; refine Calls.mono (ready_nil hs (HV.out.mono (fun _ h => List.mem_cons_of_mem _ (List.mem_cons_of_mem _ h)))) ?_; clear hs; rintro e w ⟨rfl, hs⟩))
 simp only [Exit.noGoto_ret]
 refine Se.leave0 (v := .tuple #[.agg Z.toArray, iv 1]) ?_ ?_
 ·exact Se.run_results_rc hs rfl rfl (Reads.blk 1 rfl) (by kernel_rfl) (by rw [ZL.out] <;> kernel_rfl) rfl (Cell.blk 0 rfl rfl) (by kernel_rfl)
 exact ⟨rfl, hs.drop.drop⟩
theorem ptri : (Try.prog.info? 26).map (fun i => (i.zero, i.size)) = some (some (.pointer none), 1) := by kernel_rfl
theorem zS : (Try.prog.info? 67).bind (fun i => i.zero.map (·.cells.toList)) = some zrc := by kernel_rfl
set_option maxRecDepth 100000 in
set_option maxRecDepth 100000 in
set_option maxHeartbeats 4000000 in
theorem nil_st (hs : St w0 X L w) (A : Option Addr) (n ca : Nat) (f : Fm) :
  Calls Try.prog 8 #[.slice A n ca, fv f] w fun e' w' => e' = .returned (.bool true) ∧ St w0 X L w' := by
 obtain ⟨F, hF⟩ : ∃ F, F = fl f := ⟨_, rfl⟩
 have FL := Lib.hid (show F.length = 3 by rw [hF]; rfl)
 obtain ⟨Z, hZ⟩ : ∃ Z, Z = pc {} none 0 0 none 0 0 := ⟨_, rfl⟩
 have ZL := Lib.hid (show Z.length = 14 by rw [hZ]; rfl)
 have ZO := Lib.hid (show ∀ v ∈ Z, v.oneCell' = true by rw [hZ]; exact Pd.pc_one _ _ _ _ _ _ _)
 have HZ : Hid ((Try.prog.info? 41).bind (fun i => i.zero.map (·.cells.toList)) = some Z) := Lib.hid (by rw [hZ]; exact zP0)
 have BP : Hid (∀ w : World, (Instr.build 41 #[]).run Try.prog w = .ok (.agg Z.toArray) w) := Lib.hid (by rw [hZ]; exact bP0)
 have CK : Hid (∀ (w : World), St w0 X L w → Calls Try.prog 9 #[] w fun e' w' => e' = .returned (.bool true) ∧ St w0 X L w') := Lib.hid (fun w hs => known_st hs)
 have CX : Hid (∀ (M : List At) (v : Value) (w : World), NilV M v → St w0 X M w → Calls Try.prog 19 #[v] w fun e' w' => e' = .returned (.tuple #[.agg Z.toArray, iv 1]) ∧ St w0 X M w') := Lib.hid (fun M v w hv hs => by rw [hZ]; exact next_nil hs hv)
 have CS : Hid (∀ (M : List At) (w : World), St w0 X M w → Calls Try.prog 26 #[.agg Z.toArray, .agg Z.toArray] w fun e w' => e = .returned (.bool true) ∧ St w0 X M w') := Lib.hid (fun M w hs => by
  rw [hZ]
  exact Pd.rSame_st hs ({} : PDU).h ({} : PDU).h (es := []) (fs := []) (da := []) (db := []) rfl rfl rfl rfl Reads.nil Reads.nil Reads.nil Reads.nil (by decide))
 rw [Pd.fv_eq, ← hF]
 clear hF hZ
 go_enter Try.func8, Try.ntmps8
 go_wp2_with (first | ((with_reducible refine Se.isL (o := ⟨some 6, _, _, _, _, _⟩) ?_); (refine Se.toL rfl (Se.al (o := ⟨some 6, _, _, _, _, _⟩) hs rfl (zS) ?_); clear hs; rintro w g6 - hs)) | ((with_reducible refine Se.isL (o := ⟨some 14, _, _, _, _, _⟩) ?_); (refine Se.toL rfl (Se.bsv (o := ⟨some 14, _, _, _, _, _⟩) hs rfl Try.underlying68 ptri rfl ([.pointer none, .pointer (some ⟨g6, 0, none⟩)]) (by rfl) (by rfl) (by decide) (by decide) (by simp [Value.oneCell']) ?_); clear hs; rintro w g14 - hs)) | ((first | with_reducible refine Se.ab hs ?_ | with_reducible refine Se.abc hs ?_); clear hs; (first | (generalize w.heap.size = g3; intro w hs))))
 go_loopg [8] 2 (fun gh s8 wr => ∃ (i : Nat), gh = 2 - i ∧ i ≤ 2 ∧ s8 = .int .i64 (i : Int) ∧ St w0 X (.blk g14 26 [.pointer none, .pointer (some ⟨g6, 0, none⟩)] :: .blk g6 67 zrc :: .blk g3 23 F :: L) wr)
 case atStart => exact ⟨0, rfl, by omega, rfl, hs⟩
 case round =>
  clear hs
  rename World => w
  obtain ⟨i, rfl, hi, rfl, hs⟩ := hrel
  by_cases hlt : i < 2
  ·have hlt' : (i : Int) < 2 := by omega
   obtain ⟨v, hv, hnv⟩ : ∃ v, [Value.pointer none, .pointer (some ⟨g6, 0, none⟩)][i]? = some v ∧ (v = .pointer none ∨ v = .pointer (some ⟨g6, 0, none⟩)) := by
    have : i = 0 ∨ i = 1 := by omega
    rcases this with rfl | rfl
    ·exact ⟨_, rfl, .inl rfl⟩
    ·exact ⟨_, rfl, .inr rfl⟩
   have HV := Lib.hid hv
   have NV : Hid (∀ M : List At, At.blk g6 67 zrc ∈ M → NilV M v) := Lib.hid (fun M h => by
    rcases hnv with rfl | rfl
    ·exact .inl rfl
    ·exact .inr ⟨g6, rfl, h⟩)
   clear hv hnv
   go_upto_region 9 with (first | ((with_reducible refine Se.isL (o := ⟨some 25, _, _, _, _, _⟩) ?_); (refine Se.toL rfl (Se.ld (o := ⟨some 25, _, _, _, _, _⟩) hs rfl rfl (((Reads.blk 0 rfl).cell0 i HV.out)) (by kernel_rfl) ?_))) | ((with_reducible refine Se.isL (o := ⟨some 33, _, _, _, _, _⟩) ?_); (refine Se.toL rfl (Se.ld (o := ⟨some 33, _, _, _, _, _⟩) hs rfl rfl (((Reads.blk 1 rfl).cell0 i HV.out)) (by kernel_rfl) ?_))) | ((with_reducible refine Se.isL (o := ⟨some 9, _, _, _, _, _⟩) ?_); (refine Se.toL rfl (Se.al (o := ⟨some 9, _, _, _, _, _⟩) hs rfl (HZ.out) ?_); clear hs; rintro w g9 - hs)) | ((with_reducible refine Se.isL (o := ⟨none, _, _, _, _, _⟩) ?_); (refine Se.toL rfl (Se.sow 0 hs rfl rfl rfl rfl (ZO.out) ((by rw [ZL.out]; kernel_rfl)) ((by rw [ZL.out])) ?_); clear hs; intro w hs; try simp only [List.cons_append, List.nil_append, List.set_cons_zero] at hs)) | (go_at_call 19; refine Calls.mono (CX.out _ _ _ (NV.out _ (by simp)) hs) ?_; clear hs; rintro e w ⟨rfl, hs⟩) | (go_at_call 18; refine Calls.mono (consumed_nil hs (NV.out _ (by simp))) ?_; clear hs; rintro e w ⟨rfl, hs⟩))
   refine Ch.region' 50 (fun wx => wx.cell? ⟨g14, i, none⟩ = some v ∧ Blk wx g9 Z 41 ∧ Blk wx g3 F 23) (fun | 5 => true | 14 => true | 23 => true | 31 => true | 47 => true | _ => false) (by kernel_rfl) (by decide +kernel) (⟨((Reads.blk 1 rfl).cell0 i HV.out) _ hs.drew.hold, hs.drew.hold (.blk g9 41 Z) (by simp), hs.drew.hold (.blk g3 23 F) (by simp)⟩) ?_
   replace hs := hs.drew
   generalize w.drew = w at hs ⊢
   change Ch.CW _ _ _ _ _ [0, 1, 2, 3, 4, 5, 6, 7, 8, 9, 10, 11, 12, 13, 14, 15, 16, 17, 18, 19, 20, 21, 22, 23, 24, 25, 26, 27, 28, 29, 30, 31, 32, 33, 34, 35, 36, 37, 38, 39, 40, 41, 42, 43, 44, 45, 46, 47, 48, 49] _ _
   iterate 5 ((first | (refine Ch.pure (v := ?_) (by rfl) (by rfl) (by rfl) (fun wx hS => ?_) ?_; rotate_left; (focus (go_simp; (first | done | with_reducible rfl)))) | refine Ch.pure (v := _) (by rfl) (by rfl) (by rfl) (fun wx hS => Se.xl rfl rfl hS.1 (by decide +kernel)) ?_ | refine Ch.pure (v := _) (by rfl) (by rfl) (by rfl) (fun wx hS => Se.xla rfl rfl (Li.Rd.of_blk hS.2.1) (by rw [ZL.out] <;> kernel_rfl) (by kernel_rfl)) ?_ | refine Ch.pure (v := _) (by rfl) (by rfl) (by rfl) (fun wx hS => Se.xla rfl rfl (Li.Rd.of_blk hS.2.2) (by rw [FL.out] <;> kernel_rfl) (by kernel_rfl)) ?_); (try simp only [Act.put, List.setIfInBounds_toArray, List.set_cons_zero, List.set_cons_succ]))
   refine Ch.noise (by rfl) (by rfl) (by rfl) ?_
   refine Se.gcall (f := 11) (args := #[v, .slice A n ca]) ?_ ?_
   ·go_simp
   refine Calls.mono (add_nil hs (NV.out _ (by simp)) A n ca) ?_
   clear hs
   rintro e w ⟨rfl, hs⟩
   refine ⟨_, rfl, ⟨((Reads.blk 1 rfl).cell0 i HV.out) _ hs.hold, hs.hold (.blk g9 41 Z) (by simp), hs.hold (.blk g3 23 F) (by simp)⟩, ?_⟩
   (try simp only [Act.put, List.setIfInBounds_toArray, List.set_cons_zero, List.set_cons_succ])
   iterate 7 ((first | (refine Ch.pure (v := ?_) (by rfl) (by rfl) (by rfl) (fun wx hS => ?_) ?_; rotate_left; (focus (go_simp; (first | done | with_reducible rfl)))) | refine Ch.pure (v := _) (by rfl) (by rfl) (by rfl) (fun wx hS => Se.xl rfl rfl hS.1 (by decide +kernel)) ?_ | refine Ch.pure (v := _) (by rfl) (by rfl) (by rfl) (fun wx hS => Se.xla rfl rfl (Li.Rd.of_blk hS.2.1) (by rw [ZL.out] <;> kernel_rfl) (by kernel_rfl)) ?_ | refine Ch.pure (v := _) (by rfl) (by rfl) (by rfl) (fun wx hS => Se.xla rfl rfl (Li.Rd.of_blk hS.2.2) (by rw [FL.out] <;> kernel_rfl) (by kernel_rfl)) ?_); (try simp only [Act.put, List.setIfInBounds_toArray, List.set_cons_zero, List.set_cons_succ]))
   refine Ch.pure (v := .agg Z.toArray) (by rfl) (by rfl) (by rfl) (fun wx hS => Pd.xbd rfl (vs := []) rfl (BP.out _)) ?_
   (try simp only [Act.put, List.setIfInBounds_toArray, List.set_cons_zero, List.set_cons_succ])
   refine Ch.noise (by rfl) (by rfl) (by rfl) ?_
   refine Se.gcall (f := 26) (args := #[.agg Z.toArray, .agg Z.toArray]) ?_ ?_
   ·go_simp
   refine Calls.mono (CS.out _ _ hs) ?_
   clear hs
   rintro e w ⟨rfl, hs⟩
   refine ⟨_, rfl, ⟨((Reads.blk 1 rfl).cell0 i HV.out) _ hs.hold, hs.hold (.blk g9 41 Z) (by simp), hs.hold (.blk g3 23 F) (by simp)⟩, ?_⟩
   (try simp only [Act.put, List.setIfInBounds_toArray, List.set_cons_zero, List.set_cons_succ])
   iterate 8 ((first | (refine Ch.pure (v := ?_) (by rfl) (by rfl) (by rfl) (fun wx hS => ?_) ?_; rotate_left; (focus (go_simp; (first | done | with_reducible rfl)))) | refine Ch.pure (v := _) (by rfl) (by rfl) (by rfl) (fun wx hS => Se.xl rfl rfl hS.1 (by decide +kernel)) ?_ | refine Ch.pure (v := _) (by rfl) (by rfl) (by rfl) (fun wx hS => Se.xla rfl rfl (Li.Rd.of_blk hS.2.1) (by rw [ZL.out] <;> kernel_rfl) (by kernel_rfl)) ?_ | refine Ch.pure (v := _) (by rfl) (by rfl) (by rfl) (fun wx hS => Se.xla rfl rfl (Li.Rd.of_blk hS.2.2) (by rw [FL.out] <;> kernel_rfl) (by kernel_rfl)) ?_); (try simp only [Act.put, List.setIfInBounds_toArray, List.set_cons_zero, List.set_cons_succ]))
   refine Ch.noise (by rfl) (by rfl) (by rfl) ?_
   refine Se.gcall (f := 27) (args := #[v, .agg F.toArray]) ?_ ?_
   ·go_simp
   refine Calls.mono (reframe_nil hs (NV.out _ (by simp)) F.toArray) ?_
   clear hs
   rintro e w ⟨rfl, hs⟩
   refine ⟨_, rfl, ⟨((Reads.blk 1 rfl).cell0 i HV.out) _ hs.hold, hs.hold (.blk g9 41 Z) (by simp), hs.hold (.blk g3 23 F) (by simp)⟩, ?_⟩
   (try simp only [Act.put, List.setIfInBounds_toArray, List.set_cons_zero, List.set_cons_succ])
   iterate 7 ((first | (refine Ch.pure (v := ?_) (by rfl) (by rfl) (by rfl) (fun wx hS => ?_) ?_; rotate_left; (focus (go_simp; (first | done | with_reducible rfl)))) | refine Ch.pure (v := _) (by rfl) (by rfl) (by rfl) (fun wx hS => Se.xl rfl rfl hS.1 (by decide +kernel)) ?_ | refine Ch.pure (v := _) (by rfl) (by rfl) (by rfl) (fun wx hS => Se.xla rfl rfl (Li.Rd.of_blk hS.2.1) (by rw [ZL.out] <;> kernel_rfl) (by kernel_rfl)) ?_ | refine Ch.pure (v := _) (by rfl) (by rfl) (by rfl) (fun wx hS => Se.xla rfl rfl (Li.Rd.of_blk hS.2.2) (by rw [FL.out] <;> kernel_rfl) (by kernel_rfl)) ?_); (try simp only [Act.put, List.setIfInBounds_toArray, List.set_cons_zero, List.set_cons_succ]))
   refine Ch.noise (by rfl) (by rfl) (by rfl) ?_
   refine Se.gcall (f := 20) (args := #[v]) ?_ ?_
   ·go_simp
   refine Calls.mono (held_nil hs (NV.out _ (by simp))) ?_
   clear hs
   rintro e w ⟨rfl, hs⟩
   refine ⟨_, rfl, ⟨((Reads.blk 1 rfl).cell0 i HV.out) _ hs.hold, hs.hold (.blk g9 41 Z) (by simp), hs.hold (.blk g3 23 F) (by simp)⟩, ?_⟩
   (try simp only [Act.put, List.setIfInBounds_toArray, List.set_cons_zero, List.set_cons_succ])
   iterate 15 ((first | (refine Ch.pure (v := ?_) (by rfl) (by rfl) (by rfl) (fun wx hS => ?_) ?_; rotate_left; (focus (go_simp; (first | done | with_reducible rfl)))) | refine Ch.pure (v := _) (by rfl) (by rfl) (by rfl) (fun wx hS => Se.xl rfl rfl hS.1 (by decide +kernel)) ?_ | refine Ch.pure (v := _) (by rfl) (by rfl) (by rfl) (fun wx hS => Se.xla rfl rfl (Li.Rd.of_blk hS.2.1) (by rw [ZL.out] <;> kernel_rfl) (by kernel_rfl)) ?_ | refine Ch.pure (v := _) (by rfl) (by rfl) (by rfl) (fun wx hS => Se.xla rfl rfl (Li.Rd.of_blk hS.2.2) (by rw [FL.out] <;> kernel_rfl) (by kernel_rfl)) ?_); (try simp only [Act.put, List.setIfInBounds_toArray, List.set_cons_zero, List.set_cons_succ]))
   refine Ch.noise (by rfl) (by rfl) (by rfl) ?_
   refine Se.gcall (f := 25) (args := #[v]) ?_ ?_
   ·go_simp
   refine Calls.mono (copy_nil hs (NV.out _ (by simp))) ?_
   clear hs
   rintro e w ⟨rfl, hs⟩
   refine ⟨_, rfl, ⟨((Reads.blk 1 rfl).cell0 i HV.out) _ hs.hold, hs.hold (.blk g9 41 Z) (by simp), hs.hold (.blk g3 23 F) (by simp)⟩, ?_⟩
   (try simp only [Act.put, List.setIfInBounds_toArray, List.set_cons_zero, List.set_cons_succ])
   iterate 2 ((first | (refine Ch.pure (v := ?_) (by rfl) (by rfl) (by rfl) (fun wx hS => ?_) ?_; rotate_left; (focus (go_simp; (first | done | with_reducible rfl))))); (try simp only [Act.put, List.setIfInBounds_toArray, List.set_cons_zero, List.set_cons_succ]))
   refine Ch.done ?_
   try simp only [List.drop_succ_cons, List.drop_zero]
   go_wp2_with fail
   go_roundg (2 - (i + 1))
   case measure => omega
   case rel => exact ⟨i + 1, rfl, by omega, by go_num, hs.drop⟩
  ·obtain rfl : i = 2 := by omega
   replace hs := hs.drop.drop.drop
   go_wp2_with (first | (go_at_call 9; refine Calls.mono (CK.out _ hs) ?_; clear hs; rintro e w ⟨rfl, hs⟩))
   go_ret
   exact ⟨rfl, hs⟩
theorem nil_any (A : Option Addr) (n ca : Nat) (f : Fm) (W : World) : Calls Try.prog 8 #[.slice A n ca, fv f] W fun e w' => e = .returned (.bool true) ∧ Below W.heap.size W w' :=
 (nil_st (L := []) (St.start W (by simp) rfl) A n ca f).mono fun e w' h => ⟨h.1, h.2.below⟩
end Sr
end Go.Proofs.Ytdngfcmakjlamaa


/- Layer 28's laws: ZoneEach. No condition but Go's own limits. Printed by wip/gen_zonelaw6.py. -/
import Derived.Test.YthpgkkfahiglnaaZoneLaw6
import Derived.RangeFuncBound
set_option maxRecDepth 100000
set_option maxHeartbeats 4000000
set_option linter.unusedSimpArgs false
set_option linter.unusedVariables false
namespace Go.Proofs.Ythpgkkfahiglnaa
open Go Go.RowKit
namespace Zo
open Se (St At Reads Cell)
open Li (Rd Blk Fr)
variable {w0 w : World} {X : List Nat} {L : List At}
attribute [local irreducible] Calls
theorem eachlaw_no (hs : St w0 X L w) {n sz cap mo ma many : Int} {A0 SA : Option Addr} {nl cl ns cs : Nat} {AC : List Value} (h : 60 < n ∨ okC n sz cap mo ma = false) :
  Calls Try.prog 6 #[.agg #[.int .i64 n, .int .i64 sz, .int .i64 cap, .int .i64 mo, .int .i64 ma], .slice A0 nl cl, .slice SA ns cs, .int .i64 many, .agg AC.toArray] w fun e w' => e = .returned (.bool true) ∧ St w0 X L w' := by
 obtain ⟨C, hC⟩ : ∃ C, C = [Value.int .i64 n, .int .i64 sz, .int .i64 cap, .int .i64 mo, .int .i64 ma] := ⟨_, rfl⟩
 have CLn := Lib.hid (show C.length = 5 by rw [hC]; rfl)
 have hC2 : #[Value.int .i64 n, .int .i64 sz, .int .i64 cap, .int .i64 mo, .int .i64 ma] = C.toArray := by rw [hC]
 obtain ⟨RZ0, hRZ0⟩ : ∃ R, R = zcl { c := ⟨0, 0, 0, 0, 0⟩, l := [] } none 0 := ⟨_, rfl⟩
 have ZL0 := Lib.hid (show RZ0.length = 7 by rw [hRZ0]; rfl)
 have ZO := Lib.hid (show ∀ v ∈ RZ0, v.oneCell' = true by rw [hRZ0]; exact zcl_one _ _ _)
 have zRz' := Lib.hid zRz
 rw [← hRZ0] at zRz'
 have CM : Hid (∀ (L : List At) (w : World), St w0 X L w → Calls Try.prog 21 #[.agg C.toArray] w fun e w' => e = .returned (.tuple #[.pointer none, .agg RZ0.toArray, .bool false]) ∧ St w0 X L w') := Lib.hid (fun L w hs => by rw [← hC2, hRZ0]; exact made_no hs h)
 rw [hC2]
 clear h hC hC2 hRZ0
 refine Se.enterM Try.func6 rfl ?_
 simp only [Try.ntmps6, List.size_toArray, List.length_cons, List.length_nil, Nat.reduceAdd, Nat.reduceSub, Array.replicate_succ, Array.replicate_zero, List.push_toArray, List.append_toArray, List.nil_append, List.cons_append]
 go_wp2_with (first | ((with_reducible refine Se.isL (o := ⟨some 10, _, _, _, _, _⟩) ?_); (refine Se.toL rfl (Se.al (o := ⟨some 10, _, _, _, _, _⟩) hs rfl (zBo) ?_); clear hs; rintro w g10 - hs)) | ((with_reducible refine Se.isL (o := ⟨some 24, _, _, _, _, _⟩) ?_); (refine Se.toL rfl (Se.ldw (o := ⟨some 24, _, _, _, _, _⟩) hs rfl rfl ((Reads.blk 3 rfl)) ((by rw [CLn.out]; kernel_rfl)) (by kernel_rfl) ?_))) | ((with_reducible refine Se.isL (o := ⟨some 12, _, _, _, _, _⟩) ?_); (refine Se.toL rfl (Se.al (o := ⟨some 12, _, _, _, _, _⟩) hs rfl (zRz'.out) ?_); clear hs; rintro w g12 - hs)) | ((with_reducible refine Se.isL (o := ⟨none, Op.store 43 _ _, _, _, _, _⟩) ?_); (refine Se.toL rfl (Se.sow 0 hs rfl rfl rfl rfl (ZO.out) ((by rw [ZL0.out]; kernel_rfl)) (rfl) ?_); clear hs; intro w hs; try simp only [List.cons_append, List.nil_append, List.set_cons_zero] at hs)) | ((with_reducible refine Se.isL (o := ⟨none, Op.store 4 _ _, _, _, _, _⟩) ?_); ((first | refine Se.toL rfl (Se.so 1 (v := .int _ _) hs rfl rfl rfl rfl rfl (by kernel_rfl) (by simp) ?_) | refine Se.toL rfl (Se.so 1 (v := .bool _) hs rfl rfl rfl rfl rfl (by kernel_rfl) (by simp) ?_) | refine Se.toL rfl (Se.so 1 (v := .slice _ _ _) hs rfl rfl rfl rfl rfl (by kernel_rfl) (by simp) ?_) | refine Se.toL rfl (Se.so 1 (v := .pointer _) hs rfl rfl rfl rfl rfl (by kernel_rfl) (by simp) ?_) | refine Se.toL rfl (Se.so 1 (v := .string _) hs rfl rfl rfl rfl rfl (by kernel_rfl) (by simp) ?_) | refine Se.toL rfl (Se.so 1 (v := .map _) hs rfl rfl rfl rfl rfl (by kernel_rfl) (by simp) ?_) | refine Se.toL rfl (Se.so 1 (v := .func _ _ _) hs rfl rfl rfl rfl rfl (by kernel_rfl) (by simp) ?_) | refine Se.toL rfl (Se.so 1 (v := .nilFunc) hs rfl rfl rfl rfl rfl (by kernel_rfl) (by simp) ?_)); clear hs; intro w hs; try simp only [List.cons_append, List.nil_append, List.set_cons_zero, List.set_cons_succ] at hs)) | ((first | with_reducible refine Se.ab hs ?_ | with_reducible refine Se.abc hs ?_); clear hs; (first | ((fail_if_success (have _q := g5)); generalize w.heap.size = g5; intro w hs) | ((fail_if_success (have _q := g7)); generalize w.heap.size = g7; intro w hs) | (generalize w.heap.size = g9; intro w hs))) | (go_at_call 21; refine Calls.mono (CM.out _ _ hs) ?_; clear hs; rintro e w ⟨rfl, hs⟩) | (go_at_call 8; refine Calls.mono (works_st hs) ?_; clear hs; rintro e w ⟨rfl, hs⟩))
 refine Se.leave0 (Se.results_cell1 hs rfl rfl (Cell.blk 1 rfl rfl) (by kernel_rfl)) ⟨rfl, ?_⟩
 exact hs.drop.drop.drop.drop.drop
theorem eachlaw_yes (hs : St w0 X L w) {c : Cf} (h : okC c.n c.sz c.cap c.mo c.ma = true) (h60 : c.n ≤ 60) {many : Int} {A0 SA : Option Addr} {nl cl ns cs : Nat} {acs : List Ac} {sl : List Int} {AC : List Value} {one : Ac} (hAC : AC = ac one) (hone : one.n ≤ 9223372036854775807)
  (hl : nl = acs.length) (hr : Reads L A0 (acs.flatMap ac)) (hok : ∀ a ∈ acs, a.n ≤ 9223372036854775807) (hns : ns = sl.length) (hsl : At.rd SA (ints sl) ∈ L) :
  Calls Try.prog 6 #[.agg #[iv c.n, iv c.sz, iv c.cap, iv c.mo, iv c.ma], .slice A0 nl cl, .slice SA ns cs, .int .i64 many, .agg AC.toArray] w fun e w' => e = .returned (.bool true) ∧ St w0 X L w' := by
 obtain ⟨C, hC⟩ : ∃ C, C = Zo.cl c := ⟨_, rfl⟩
 have CLn := Lib.hid (show C.length = 5 by rw [hC]; rfl)
 have hC2 : #[iv c.n, iv c.sz, iv c.cap, iv c.mo, iv c.ma] = C.toArray := by rw [hC]; rfl
 obtain ⟨RZ0, hRZ0⟩ : ∃ R, R = zcl { c := ⟨0, 0, 0, 0, 0⟩, l := [] } none 0 := ⟨_, rfl⟩
 have ZL0 := Lib.hid (show RZ0.length = 7 by rw [hRZ0]; rfl)
 have ZO := Lib.hid (show ∀ v ∈ RZ0, v.oneCell' = true by rw [hRZ0]; exact zcl_one _ _ _)
 have zRz' := Lib.hid zRz
 rw [← hRZ0] at zRz'
 have CM : Hid (∀ (L : List At) (w : World), St w0 X L w → Calls Try.prog 21 #[.agg C.toArray] w fun e w' => ∃ g a r cc A ZI, e = .returned (.tuple #[.pointer (some ⟨g, 0, none⟩), .agg ZI.toArray, .bool true]) ∧ RZ (newZ c) A ZI ∧ St w0 X (pZ g (newZ c) (some a) cc :: pL r (some a) cc (newZ c) :: .rd A (ocs ((newZ c)).l) :: L) w') := Lib.hid (fun L w hs => by rw [← hC2]; exact made_yes hs h h60)
 have HOK0 := Lib.hid (show OkZ (newZ c) ∧ (newZ c).w ≤ 0 from ⟨OkZ.new h, Nat.le_refl _⟩)
 have HL := Lib.hid hl
 have HR := Lib.hid hr
 have HK := Lib.hid hok
 have HAC := Lib.hid hAC
 have HONE := Lib.hid hone
 have HNS := Lib.hid hns
 have HSL := Lib.hid hsl
 have ACL := Lib.hid (show AC.length = 4 by rw [hAC]; rfl)
 rw [hC2]
 clear h h60 hC hC2 hRZ0 hl hr hok hAC hone hns hsl ZO
 refine Se.enterM Try.func6 rfl ?_
 simp only [Try.ntmps6, List.size_toArray, List.length_cons, List.length_nil, Nat.reduceAdd, Nat.reduceSub, Array.replicate_succ, Array.replicate_zero, List.push_toArray, List.append_toArray, List.nil_append, List.cons_append]
 go_upto_region 2 with (first | ((with_reducible refine Se.isL (o := ⟨some 10, _, _, _, _, _⟩) ?_); (refine Se.toL rfl (Se.al (o := ⟨some 10, _, _, _, _, _⟩) hs rfl (zBo) ?_); clear hs; rintro w g10 - hs)) | ((with_reducible refine Se.isL (o := ⟨some 24, _, _, _, _, _⟩) ?_); (refine Se.toL rfl (Se.ldw (o := ⟨some 24, _, _, _, _, _⟩) hs rfl rfl ((Reads.blk 3 rfl)) ((by rw [CLn.out]; kernel_rfl)) (by kernel_rfl) ?_))) | ((with_reducible refine Se.isL (o := ⟨some 12, _, _, _, _, _⟩) ?_); (refine Se.toL rfl (Se.al (o := ⟨some 12, _, _, _, _, _⟩) hs rfl (zRz'.out) ?_); clear hs; rintro w g12 - hs)) | ((with_reducible refine Se.isL (o := ⟨none, Op.store 43 _ _, _, _, _, _⟩) ?_); (refine Se.toL rfl (Se.sow 0 hs rfl rfl rfl rfl (hz.one) ((by rw [hz.len]; kernel_rfl)) ((by rw [hz.len, ZL0.out])) ?_); clear hs; intro w hs; try simp only [List.cons_append, List.nil_append, List.set_cons_zero] at hs)) | ((first | with_reducible refine Se.ab hs ?_ | with_reducible refine Se.abc hs ?_); clear hs; (first | ((fail_if_success (have _q := g5)); generalize w.heap.size = g5; intro w hs) | ((fail_if_success (have _q := g7)); generalize w.heap.size = g7; intro w hs) | (generalize w.heap.size = g9; intro w hs))) | (go_at_call 21; refine Calls.mono (CM.out _ _ hs) ?_; clear hs; rintro e w ⟨g, a, r, cc, A, ZI, rfl, hz, hs⟩))
 have HZ := Lib.hid hz
 clear hz CM
 replace hs := hs.pull 0 rfl
 replace hs := hs.pull 3 rfl
 replace hs := hs.pull 3 rfl
 replace hs := hs.pull 3 rfl
 simp only [List.eraseIdx_cons_succ, List.eraseIdx_cons_zero] at hs
 by_cases h20 : 20 < nl
 ·have f1 : decide (20 < (nl : Int)) = true := by simp; omega
  have f2 : decide (20 < nl) = true := by simpa using h20
  clear h20
  go_wp2_with (first | ((with_reducible refine Se.isL (o := ⟨none, Op.store 4 _ _, _, _, _, _⟩) ?_); ((first | refine Se.toL rfl (Se.so 4 (v := .int _ _) hs rfl rfl rfl rfl rfl (by kernel_rfl) (by simp) ?_) | refine Se.toL rfl (Se.so 4 (v := .bool _) hs rfl rfl rfl rfl rfl (by kernel_rfl) (by simp) ?_) | refine Se.toL rfl (Se.so 4 (v := .slice _ _ _) hs rfl rfl rfl rfl rfl (by kernel_rfl) (by simp) ?_) | refine Se.toL rfl (Se.so 4 (v := .pointer _) hs rfl rfl rfl rfl rfl (by kernel_rfl) (by simp) ?_) | refine Se.toL rfl (Se.so 4 (v := .string _) hs rfl rfl rfl rfl rfl (by kernel_rfl) (by simp) ?_) | refine Se.toL rfl (Se.so 4 (v := .map _) hs rfl rfl rfl rfl rfl (by kernel_rfl) (by simp) ?_) | refine Se.toL rfl (Se.so 4 (v := .func _ _ _) hs rfl rfl rfl rfl rfl (by kernel_rfl) (by simp) ?_) | refine Se.toL rfl (Se.so 4 (v := .nilFunc) hs rfl rfl rfl rfl rfl (by kernel_rfl) (by simp) ?_)); clear hs; intro w hs; try simp only [List.cons_append, List.nil_append, List.set_cons_zero, List.set_cons_succ] at hs)) | (go_at_call 8; refine Calls.mono (works_st hs) ?_; clear hs; rintro e w ⟨rfl, hs⟩))
  refine Se.leave0 (Se.results_cell1 hs rfl rfl (Cell.blk 4 rfl rfl) (by kernel_rfl)) ⟨rfl, ?_⟩
  exact hs.drop.drop.drop.drop.drop.drop.drop.drop
 have f1 : decide (20 < (nl : Int)) = false := by simp; omega
 have f2 : decide (20 < nl) = false := by simpa using h20
 by_cases h5 : 5 < ns
 ·have f3 : decide (5 < (ns : Int)) = true := by simp; omega
  have f4 : decide (5 < ns) = true := by simpa using h5
  clear h20 h5
  go_wp2_with (first | ((with_reducible refine Se.isL (o := ⟨some 37, _, _, _, _, _⟩) ?_); (refine Se.toL rfl (Se.ld (o := ⟨some 37, _, _, _, _, _⟩) hs rfl rfl (Cell.blk 6 rfl rfl) (by kernel_rfl) ?_))) | ((with_reducible refine Se.isL (o := ⟨none, Op.store 4 _ _, _, _, _, _⟩) ?_); ((first | refine Se.toL rfl (Se.so 4 (v := .int _ _) hs rfl rfl rfl rfl rfl (by kernel_rfl) (by simp) ?_) | refine Se.toL rfl (Se.so 4 (v := .bool _) hs rfl rfl rfl rfl rfl (by kernel_rfl) (by simp) ?_) | refine Se.toL rfl (Se.so 4 (v := .slice _ _ _) hs rfl rfl rfl rfl rfl (by kernel_rfl) (by simp) ?_) | refine Se.toL rfl (Se.so 4 (v := .pointer _) hs rfl rfl rfl rfl rfl (by kernel_rfl) (by simp) ?_) | refine Se.toL rfl (Se.so 4 (v := .string _) hs rfl rfl rfl rfl rfl (by kernel_rfl) (by simp) ?_) | refine Se.toL rfl (Se.so 4 (v := .map _) hs rfl rfl rfl rfl rfl (by kernel_rfl) (by simp) ?_) | refine Se.toL rfl (Se.so 4 (v := .func _ _ _) hs rfl rfl rfl rfl rfl (by kernel_rfl) (by simp) ?_) | refine Se.toL rfl (Se.so 4 (v := .nilFunc) hs rfl rfl rfl rfl rfl (by kernel_rfl) (by simp) ?_)); clear hs; intro w hs; try simp only [List.cons_append, List.nil_append, List.set_cons_zero, List.set_cons_succ] at hs)) | (go_at_call 8; refine Calls.mono (works_st hs) ?_; clear hs; rintro e w ⟨rfl, hs⟩))
  refine Se.leave0 (Se.results_cell1 hs rfl rfl (Cell.blk 4 rfl rfl) (by kernel_rfl)) ⟨rfl, ?_⟩
  exact hs.drop.drop.drop.drop.drop.drop.drop.drop
 have f3 : decide (5 < (ns : Int)) = false := by simp; omega
 have f4 : decide (5 < ns) = false := by simpa using h5
 have hnl : nl ≤ 20 := by omega
 have hn5 : ns ≤ 5 := by omega
 clear h20 h5
 go_wp2_with (first | ((with_reducible refine Se.isL (o := ⟨some 37, _, _, _, _, _⟩) ?_); (refine Se.toL rfl (Se.ld (o := ⟨some 37, _, _, _, _, _⟩) hs rfl rfl (Cell.blk 6 rfl rfl) (by kernel_rfl) ?_))))
 clear f1 f2 f3 f4
 obtain ⟨z, hzz⟩ : ∃ z, z = newZ c := ⟨_, rfl⟩
 rw [← hzz] at hs HZ HOK0
 clear hzz
 go_loopg [11, 14] nl (fun gh s11 s14 wr => ∃ (j : Nat) (z : Zs) (g : Nat) (a : Addr) (r : Option Nat) (cc : Nat) (A : Option Addr) (ZI : List Value), gh = nl - j ∧ j ≤ nl ∧ s14 = .int .i64 (j : Int) ∧ s11 = .pointer (some ⟨g, 0, none⟩) ∧ Hid (OkZ z ∧ z.w ≤ j) ∧ Hid (RZ z A ZI) ∧ St w0 X (pZ g z (some a) cc :: pL r (some a) cc z :: .rd A (ocs (z).l) :: .blk g12 43 ZI :: .blk g10 4 [.bool false] :: .blk g9 57 AC :: .blk g7 59 [.slice SA ns cs] :: .blk g5 24 C :: L) wr)
 case atStart => exact ⟨0, z, g, a, r, cc, A, ZI, rfl, Nat.zero_le _, rfl, rfl, HOK0, HZ, hs⟩
 case round =>
  clear hs HZ HOK0
  rename World => w
  obtain ⟨j, z, g, a, r, cc, A, ZI, rfl, hj, rfl, rfl, HO, HZ, hs⟩ := hrel
  have ZLn := Lib.hid HZ.out.len
  by_cases hlt : j < nl
  ·have hlt' : (j : Int) < (nl : Int) := by omega
   have hjl : j < acs.length := by rw [← HL.out]; exact hlt
   obtain ⟨ga, oa, rfl, -, -⟩ := (HR.out w (fun b hb => hs.hold b (by simp [hb]))).cells (acs_ne (by omega))
   obtain ⟨x, hx⟩ : ∃ x, x = acs[j] := ⟨_, rfl⟩
   have HRX : Hid (∀ M : List At, Reads (M ++ L) (some ⟨ga, oa + j * 4, none⟩) [.int .i64 x.wh, .int .i64 x.zi, .int .i64 x.off, .int .i64 x.n]) := Lib.hid (fun M => by
    have h := (row_ac HR.out hjl).app M
    rw [← hx] at h
    exact h)
   obtain ⟨AX, hAX⟩ : ∃ AC : List Value, AC = [.int .i64 x.wh, .int .i64 x.zi, .int .i64 x.off, .int .i64 x.n] := ⟨_, rfl⟩
   have ALn := Lib.hid (show AX.length = 4 by rw [hAX]; rfl)
   have CAC : Hid (∀ (w : World), St w0 X (pZ g z (some a) cc :: pL r (some a) cc z :: .rd A (ocs (z).l) :: .blk g12 43 ZI :: .blk g10 4 [.bool false] :: .blk g9 57 AC :: .blk g7 59 [.slice SA ns cs] :: .blk g5 24 C :: L) w → Calls Try.prog 22 #[.pointer (some ⟨g, 0, none⟩), .agg ZI.toArray, .agg AX.toArray] w fun e w' => ∃ z' g' a' r' c' A' ZN, e = .returned (.tuple #[.pointer (some ⟨g', 0, none⟩), .agg ZN.toArray, .bool true]) ∧ Nx z z' ∧ RZ z' A' ZN ∧ St w0 X (pZ g' z' (some a') c' :: pL r' (some a') c' z' :: .rd A' (ocs (z').l) :: .blk g12 43 ZI :: .blk g10 4 [.bool false] :: .blk g9 57 AC :: .blk g7 59 [.slice SA ns cs] :: .blk g5 24 C :: L) w') := Lib.hid (fun w hs => by
    rw [hAX]
    refine (act_st hs HO.out.1 (by have := HO.out.2; omega) HZ.out (HK.out x (by rw [hx]; exact List.getElem_mem hjl))).mono ?_
    rintro e w ⟨-, z', g', a', r', c', A', ZN, h1, h2, h3, h4⟩
    exact ⟨z', g', a', r', c', A', ZN, h1, h2, h3, h4⟩)
   rw [← hAX] at HRX
   clear hx hjl hAX
   go_upto_region 7 with (fail)
   refine Ch.region' 13 (fun wx => Rd wx (some ⟨ga, oa + j * 4, none⟩) AX) (fun | 1 => true | 6 => true | 12 => true | _ => false) (by kernel_rfl) (by decide +kernel) (HRX.out [_, _, _, _, _, _, _, _] _ hs.drew.hold) ?_
   replace hs := hs.drew
   generalize w.drew = w at hs ⊢
   change Ch.CW _ _ _ _ _ [0, 1, 2, 3, 4, 5, 6, 7, 8, 9, 10, 11, 12] _ _
   iterate 1 ((first | (refine Ch.pure (v := ?_) (by rfl) (by rfl) (by rfl) (fun wx hS => ?_) ?_; rotate_left; (focus (go_simp; (first | done | with_reducible rfl))))); (try simp only [Act.put, List.setIfInBounds_toArray, List.set_cons_zero, List.set_cons_succ]))
   refine Ch.noise (by rfl) (by rfl) (by rfl) (Se.ldw hs rfl rfl (Reads.blk 3 rfl) (by rw [ZLn.out]; kernel_rfl) (by kernel_rfl) ?_)
   refine ⟨HRX.out [_, _, _, _, _, _, _, _] _ hs.hold, ?_⟩
   (try simp only [Act.put, List.setIfInBounds_toArray, List.set_cons_zero, List.set_cons_succ])
   iterate 4 ((first | (refine Ch.pure (v := ?_) (by rfl) (by rfl) (by rfl) (fun wx hS => ?_) ?_; rotate_left; (focus (go_simp; (first | done | with_reducible rfl)))) | refine Ch.pure (v := _) (by rfl) (by rfl) (by rfl) (fun wx hS => Se.xla rfl rfl hS (by rw [ALn.out] <;> kernel_rfl) (by kernel_rfl)) ?_); (try simp only [Act.put, List.setIfInBounds_toArray, List.set_cons_zero, List.set_cons_succ]))
   refine Ch.noise (by rfl) (by rfl) (by rfl) ?_
   refine Se.gcall (f := 22) (args := #[.pointer (some ⟨g, 0, none⟩), .agg ZI.toArray, .agg AX.toArray]) ?_ ?_
   ·go_simp
   refine Calls.mono (CAC.out _ hs) ?_
   clear hs
   rintro e w ⟨z', g', a', r', c', A', ZN, rfl, hnx, hzn, hs⟩
   refine ⟨_, rfl, HRX.out [_, _, _, _, _, _, _, _] _ hs.hold, ?_⟩
   (try simp only [Act.put, List.setIfInBounds_toArray, List.set_cons_zero, List.set_cons_succ])
   have NL := Lib.hid hzn.len
   have NO := Lib.hid hzn.one
   have HZN := Lib.hid hzn
   have HNX := Lib.hid hnx
   clear hzn hnx CAC
   iterate 5 ((first | (refine Ch.pure (v := ?_) (by rfl) (by rfl) (by rfl) (fun wx hS => ?_) ?_; rotate_left; (focus (go_simp; (first | done | with_reducible rfl))))); (try simp only [Act.put, List.setIfInBounds_toArray, List.set_cons_zero, List.set_cons_succ]))
   refine Ch.noise (by rfl) (by rfl) (by rfl) (Se.sow 3 hs rfl rfl rfl rfl NO.out (by rw [NL.out]; kernel_rfl) (by rw [NL.out, ZLn.out]) ?_)
   clear hs
   intro w hs
   simp only [List.cons_append, List.nil_append, List.set_cons_zero, List.set_cons_succ] at hs
   refine ⟨HRX.out [_, _, _, _, _, _, _, _] _ hs.hold, ?_⟩
   (try simp only [Act.put, List.setIfInBounds_toArray, List.set_cons_zero, List.set_cons_succ])
   refine Ch.done ?_
   try simp only [List.drop_succ_cons, List.drop_zero]
   go_wp2_with fail
   go_roundg (nl - (j + 1))
   case measure => omega
   case rel => exact ⟨j + 1, z', g', a', r', c', A', ZN, rfl, by omega, by go_num, rfl, Lib.hid ⟨HNX.out.1, by have := HNX.out.2.2; have := HO.out.2; omega⟩, HZN, hs⟩
  ·obtain rfl : j = nl := by omega
   clear HK HR HL
   have CE := Lib.hid (each_st (w0 := w0) (X := X) (g := g) (cc := cc) (a := a) (r := r) (L := .rd A (ocs z.l) :: .blk g12 43 ZI :: .blk g10 4 [.bool false] :: .blk g9 57 AC :: .blk g7 59 [.slice SA ns cs] :: .blk g5 24 C :: L) HO.out.1 (c := cs) HNS.out ((Reads.rdm HSL.out).app [_, _, _, _, _, _]) (by omega))
   go_upto_region 10 with (first | ((with_reducible refine Se.isL (o := ⟨some 60, _, _, _, _, _⟩) ?_); (refine Se.toL rfl (Se.ld (o := ⟨some 60, _, _, _, _, _⟩) hs rfl rfl (Cell.blk 6 rfl rfl) (by kernel_rfl) ?_))) | (go_at_call 23; refine Calls.mono (CE.out w hs) ?_; clear hs; rintro e w ⟨lb, M, rfl, HSeq, hs⟩) | (go_at_call 24; refine Calls.mono (copy_M hs HO.out.1) ?_; clear hs; rintro e w ⟨g2, a2, r2, c2, rfl, hs⟩))
   clear CE
   replace hs := hs.perm ((List.Perm.append_left [_, _] (List.perm_append_comm_assoc M [_, _, _, _, _, _, _, _] L)).trans (List.perm_append_comm_assoc [_, _] [_, _, _, _, _, _, _, _] (M ++ L)))
   simp only [List.cons_append, List.nil_append] at hs
   replace hs := (hs.dup (A := A) (xs := ocs z.l) (by simp)).dup (A := SA) (xs := ints sl) (by simp [HSL.out])
   replace hs := hs.pull 0 rfl
   replace hs := hs.pull 1 rfl
   replace hs := hs.pull 4 rfl
   replace hs := hs.pull 4 rfl
   replace hs := hs.pull 4 rfl
   simp only [List.eraseIdx_cons_succ, List.eraseIdx_cons_zero] at hs
   have CO : Hid (∀ w, St w0 X (pZ g z (some a) cc :: pL r (some a) cc z :: .rd A (ocs z.l) :: .rd A (ocs z.l) :: .rd SA (ints sl) :: .blk g12 43 ZI :: .blk g10 4 [.bool false] :: .blk g9 57 AC :: .blk g7 59 [.slice SA ns cs] :: .blk g5 24 C :: pZ g2 z (some a2) c2 :: pL r2 (some a2) c2 z :: (M ++ L)) w → Calls Try.prog 25 #[.pointer (some ⟨g, 0, none⟩), .agg ZI.toArray, .int .i64 many, .slice SA ns cs] w fun e w' => e = .returned (.bool true) ∧ St w0 X (pZ g z (some a) cc :: pL r (some a) cc z :: .rd A (ocs z.l) :: .rd A (ocs z.l) :: .rd SA (ints sl) :: .blk g12 43 ZI :: .blk g10 4 [.bool false] :: .blk g9 57 AC :: .blk g7 59 [.slice SA ns cs] :: .blk g5 24 C :: pZ g2 z (some a2) c2 :: pL r2 (some a2) c2 z :: (M ++ L)) w') := Lib.hid (fun w hs => over_gen hs (by simp) (by rw [HO.out.1.1]; exact HO.out.1.2.2.1) (fun _ => HO.out.1) HZ.out HNS.out (Reads.rdm (by simp)) (by omega)
    (fun M' => EachOk.perm (each_st (L := M' ++ .rd A (ocs z.l) :: .rd A (ocs z.l) :: .rd SA (ints sl) :: .blk g12 43 ZI :: .blk g10 4 [.bool false] :: .blk g9 57 AC :: .blk g7 59 [.slice SA ns cs] :: .blk g5 24 C :: pZ g2 z (some a2) c2 :: pL r2 (some a2) c2 z :: (M ++ L)) HO.out.1 HNS.out (Reads.rdm (by simp)) (by omega)) (List.perm_append_comm_assoc [_, _] M' _)) many)
   have CA : Hid (∀ w, St w0 X (pZ g z (some a) cc :: pL r (some a) cc z :: .rd A (ocs z.l) :: .rd A (ocs z.l) :: .rd SA (ints sl) :: .blk g12 43 ZI :: .blk g10 4 [.bool false] :: .blk g9 57 AC :: .blk g7 59 [.slice SA ns cs] :: .blk g5 24 C :: pZ g2 z (some a2) c2 :: pL r2 (some a2) c2 z :: (M ++ L)) w → Calls Try.prog 22 #[.pointer (some ⟨g, 0, none⟩), .agg ZI.toArray, .agg AC.toArray] w fun e w' => ∃ z' g' a' r' c' A' ZN, e = .returned (.tuple #[.pointer (some ⟨g', 0, none⟩), .agg ZN.toArray, .bool true]) ∧ Nx z z' ∧ RZ z' A' ZN ∧ St w0 X (pZ g' z' (some a') c' :: pL r' (some a') c' z' :: .rd A' (ocs z'.l) :: .rd A (ocs z.l) :: .rd SA (ints sl) :: .blk g12 43 ZI :: .blk g10 4 [.bool false] :: .blk g9 57 AC :: .blk g7 59 [.slice SA ns cs] :: .blk g5 24 C :: pZ g2 z (some a2) c2 :: pL r2 (some a2) c2 z :: (M ++ L)) w') := Lib.hid (fun w hs => by
    have h := act_st hs HO.out.1 (by have := HO.out.2; omega) HZ.out HONE.out (wh := one.wh) (zi := one.zi) (off := one.off)
    rw [show (#[.int .i64 one.wh, .int .i64 one.zi, .int .i64 one.off, .int .i64 one.n] : Array Value) = AC.toArray by rw [HAC.out]; rfl] at h
    refine h.mono ?_
    rintro e w ⟨-, z', g', a', r', c', A', ZN, h1, h2, h3, h4⟩
    exact ⟨z', g', a', r', c', A', ZN, h1, h2, h3, h4⟩)
   have hx0 := nf_eql
   go_wp2_with (first | ((with_reducible refine Se.isL (o := ⟨some 68, _, _, _, _, _⟩) ?_); (refine Se.toL rfl (Se.ldw (o := ⟨some 68, _, _, _, _, _⟩) hs rfl rfl ((Reads.blk 5 rfl)) ((by rw [ZLn.out]; kernel_rfl)) (by kernel_rfl) ?_))) | ((with_reducible refine Se.isL (o := ⟨some 70, _, _, _, _, _⟩) ?_); (refine Se.toL rfl (Se.ld (o := ⟨some 70, _, _, _, _, _⟩) hs rfl rfl (Cell.blk 8 rfl rfl) (by kernel_rfl) ?_))) | ((with_reducible refine Se.isL (o := ⟨some 76, _, _, _, _, _⟩) ?_); (refine Se.toL rfl (Se.ldw (o := ⟨some 76, _, _, _, _, _⟩) hs rfl rfl ((Reads.blk 5 rfl)) ((by rw [ZLn.out]; kernel_rfl)) (by kernel_rfl) ?_))) | ((with_reducible refine Se.isL (o := ⟨some 77, _, _, _, _, _⟩) ?_); (refine Se.toL rfl (Se.ldw (o := ⟨some 77, _, _, _, _, _⟩) hs rfl rfl ((Reads.blk 7 rfl)) ((by rw [ACL.out]; kernel_rfl)) (by kernel_rfl) ?_))) | ((with_reducible refine Se.isL (o := ⟨some 17, _, _, _, _, _⟩) ?_); (refine Se.toL rfl (Se.al (o := ⟨some 17, _, _, _, _, _⟩) hs rfl (zRz'.out) ?_); clear hs; rintro w g17 - hs)) | ((with_reducible refine Se.isL (o := ⟨none, Op.store 43 _ _, _, _, _, _⟩) ?_); (refine Se.toL rfl (Se.sow 0 hs rfl rfl rfl rfl (hzn.one) ((by rw [hzn.len]; kernel_rfl)) ((by rw [hzn.len, ZL0.out])) ?_); clear hs; intro w hs; try simp only [List.cons_append, List.nil_append, List.set_cons_zero] at hs)) | ((with_reducible refine Se.isL (o := ⟨some 19, _, _, _, _, _⟩) ?_); (refine Se.toL rfl (Se.al (o := ⟨some 19, _, _, _, _, _⟩) hs rfl (zIn) ?_); clear hs; rintro w g19 - hs)) | ((with_reducible refine Se.isL (o := ⟨none, Op.store 3 _ _, _, _, _, _⟩) ?_); ((first | refine Se.toL rfl (Se.so 0 (v := .int _ _) hs rfl rfl rfl rfl rfl (by kernel_rfl) (by simp) ?_) | refine Se.toL rfl (Se.so 0 (v := .bool _) hs rfl rfl rfl rfl rfl (by kernel_rfl) (by simp) ?_) | refine Se.toL rfl (Se.so 0 (v := .slice _ _ _) hs rfl rfl rfl rfl rfl (by kernel_rfl) (by simp) ?_) | refine Se.toL rfl (Se.so 0 (v := .pointer _) hs rfl rfl rfl rfl rfl (by kernel_rfl) (by simp) ?_) | refine Se.toL rfl (Se.so 0 (v := .string _) hs rfl rfl rfl rfl rfl (by kernel_rfl) (by simp) ?_) | refine Se.toL rfl (Se.so 0 (v := .map _) hs rfl rfl rfl rfl rfl (by kernel_rfl) (by simp) ?_) | refine Se.toL rfl (Se.so 0 (v := .func _ _ _) hs rfl rfl rfl rfl rfl (by kernel_rfl) (by simp) ?_) | refine Se.toL rfl (Se.so 0 (v := .nilFunc) hs rfl rfl rfl rfl rfl (by kernel_rfl) (by simp) ?_)); clear hs; intro w hs; try simp only [List.cons_append, List.nil_append, List.set_cons_zero] at hs)) | (go_at_call 25; refine Calls.mono (CO.out _ hs) ?_; clear hs; rintro e w ⟨rfl, hs⟩) | (go_at_call 22; refine Calls.mono (CA.out _ hs) ?_; clear hs; rintro e w ⟨z', g', a', r', c', A', ZN, rfl, hnx, hzn, hs⟩))
   have HNX := Lib.hid hnx
   have HZN := Lib.hid hzn
   have NLn := Lib.hid hzn.len
   clear hnx hzn CO CA hx0
   replace hs := hs.pull 13 rfl
   replace hs := hs.pull 13 rfl
   replace hs := hs.pull 13 rfl
   replace hs := hs.pull 12 rfl
   replace hs := hs.pull 8 rfl
   replace hs := hs.pull 8 rfl
   replace hs := hs.pull 8 rfl
   replace hs := hs.pull 8 rfl
   replace hs := hs.pull 13 rfl
   replace hs := hs.pull 13 rfl
   replace hs := hs.pull 13 rfl
   replace hs := hs.pull 11 rfl
   replace hs := hs.pull 12 rfl
   replace hs := hs.pull 13 rfl
   simp only [List.eraseIdx_cons_succ, List.eraseIdx_cons_zero] at hs
   replace hs : St w0 X ([.rd SA (ints sl), .rd A (ocs z.l), .blk g19 3 [.int .i64 ((0 : Nat) : Int)], .blk g12 43 ZI, .blk g10 4 [.bool false], .blk g7 59 [.slice SA ns cs]] ++ (M ++ ([.blk g17 43 ZN, pZ g' z' (some a') c', pL r' (some a') c' z', .rd A' (ocs z'.l), .blk g9 57 AC, .blk g5 24 C, pZ g2 z (some a2) c2, pL r2 (some a2) c2 z] ++ L))) w := hs.perm (List.Perm.append_left [_, _, _, _, _, _] (List.perm_append_comm_assoc [_, _, _, _, _, _, _, _] M L))
   obtain ⟨NS, hNS⟩ : ∃ N, N = numsT (inS sl) z.l z.l.length := ⟨_, rfl⟩
   rw [← hNS] at HSeq
   obtain ⟨k, hkk⟩ : ∃ k, k = z.l.length := ⟨_, rfl⟩
   have HK := Lib.hid hkk
   have HNE := Lib.hid (show NS = numsT (inS sl) z.l k by rw [hNS, hkk])
   have HNM : Hid (∀ x ∈ NS, x < k ∧ inS sl (z.l.getD x dz) = true) := Lib.hid (fun x hx => by rw [hNS] at hx; rw [hkk]; exact numsT_mem.1 hx)
   have hk4 : k ≤ 4096 := by rw [hkk, HO.out.1.1]; exact HO.out.1.2.2.1
   have hm4 : NS.length ≤ k := by rw [hNS, hkk]; exact numsT_le _ _ _
   have Z5 : ∃ cc, ZI[5]? = some (.slice A k cc) := by obtain ⟨cc, hcc⟩ := HZ.out; exact ⟨cc, by rw [hcc, hkk]; rfl⟩
   obtain ⟨c5, Z5⟩ := Z5
   have Z5 := Lib.hid Z5
   have SLM : Hid (∀ M : List At, Reads (M ++ L) SA (ints sl)) := Lib.hid (fun M => (Reads.rdm HSL.out).app M)
   clear hNS hkk ZL0 zRz'
   refine Se.rangeSt (lb := lb) hs rfl (Go.Proofs.enters_of Try.func58 (by kernel_rfl) rfl) HSeq (fun _ => rfl)
    (fun q Lb => Lb = [.rd SA (ints sl), .rd A (ocs z.l), .blk g19 3 [.int .i64 (q : Int)], .blk g12 43 ZI, .blk g10 4 [.bool false], .blk g7 59 [.slice SA ns cs]])
    (fun _ _ _ => False)
    rfl ?_ ?_ ?_
   ·rintro l q x Lb w T hx rfl hs
    obtain ⟨hqn, hxe⟩ := List.getElem?_eq_some_iff.1 hx
    have hxm := HNM.out x (by rw [← hxe]; exact List.getElem_mem hqn)
    have hxk := hxm.1
    have hxl : x < z.l.length := by rw [← HK.out]; exact hxk
    obtain ⟨st, hst⟩ : ∃ s, s = (z.l.getD x dz).st := ⟨_, rfl⟩
    have CIN : Hid (∀ (M' : List At) (w : World), St w0 X M' w → At.rd SA (ints sl) ∈ M' → Calls Try.prog 26 #[iv st, .slice SA ns cs] w fun e w' => e = .returned (.bool true) ∧ St w0 X M' w') := Lib.hid (fun M' w hs hm => by
     have h := in_st hs HNS.out (Reads.rdm hm) (by omega) (z.l.getD x dz) (c := cs)
     rw [hxm.2, ← hst] at h
     exact h)
    obtain ⟨Z, hZ⟩ : ∃ Z, Z = zcV z x := ⟨_, rfl⟩
    have ZVL := Lib.hid (show Z.length = 4 by rw [hZ]; rfl)
    have ZVO := Lib.hid (show ∀ v ∈ Z, v.oneCell' = true by rw [hZ]; simp [zcV, Value.oneCell'])
    have Z0 := Lib.hid (show Z[0]? = some (iv st) by rw [hZ, hst]; rfl)
    have CRZ : Hid (∀ (M' : List At) (w : World), St w0 X M' w → At.rd A (ocs z.l) ∈ M' → Calls Try.prog 20 #[.agg ZI.toArray, .int .i64 (x : Int)] w fun e w' => e = .returned (.agg Z.toArray) ∧ St w0 X M' w') := Lib.hid (fun M' w hs hm => by rw [hZ]; exact rzone_st hs hm HO.out.1 HZ.out hxl)
    have hnz : ∀ w, (binOp .neq 37 (.agg Z.toArray) (.agg Z.toArray)).run Try.prog w = .ok (.bool false) w := fun w => by rw [hZ]; exact neZ _ _ _ _ w
    rw [show encZ z x = #[.int .i64 (x : Int), .agg Z.toArray] by rw [hZ]; rfl]
    simp only [List.cons_append, List.nil_append] at hs
    rw [Se.zip2]
    simp only [List.setIfInBounds_toArray, List.set_cons_zero, List.set_cons_succ]
    clear hx hxe hxl hZ hst hxm
    repeat (first | refine wpIn_block ?_ | refine wpIn_seq ?_)
    refine Se.regI (by repeat (first | exact Se.roundSt_out | exact Se.falsePost_out | refine Se.then_out ?_ | refine Se.block_out ?_)) (by rfl) ?_
    go_wp2_with fail
    (try simp only [Exit.then])
    repeat (first | refine wpIn_block ?_ | refine wpIn_seq ?_)
    refine Se.regI (by repeat (first | exact Se.roundSt_out | exact Se.falsePost_out | refine Se.then_out ?_ | refine Se.block_out ?_)) (by rfl) ?_
    go_wp2_with (first | ((with_reducible refine Se.isL (o := ⟨some 21, _, _, _, _, _⟩) ?_); (refine Se.toL rfl (Se.al (o := ⟨some 21, _, _, _, _, _⟩) hs rfl (zZo) ?_); clear hs; rintro w g21 - hs)) | ((with_reducible refine Se.isL (o := ⟨none, Op.store 37 _ _, _, _, _, _⟩) ?_); (refine Se.toL rfl (Se.sow 0 hs rfl rfl rfl rfl (ZVO.out) ((by rw [ZVL.out]; kernel_rfl)) ((by rw [ZVL.out]; rfl)) ?_); clear hs; intro w hs; try simp only [List.cons_append, List.nil_append, List.set_cons_zero] at hs)))
    (try simp only [Exit.then])
    refine ⟨.blk g21 37 Z :: [.rd SA (ints sl), .rd A (ocs z.l), .blk g19 3 [.int .i64 (q : Int)], .blk g12 43 ZI, .blk g10 4 [.bool false], .blk g7 59 [.slice SA ns cs]], hs, ?_⟩
    clear hs
    clear w T
    intro w T hs
    simp only [List.cons_append, List.nil_append] at hs
    have f0 : decide ((x : Int) < 0) = false := by simp
    have f1 : decide ((k : Int) ≤ (x : Int)) = false := by simpa using hxk
    have f2 : decide (k ≤ x) = false := by simpa using hxk
    have SA' := Lib.hid (show ∀ w', St w0 X (.blk g21 37 Z :: .rd SA (ints sl) :: .rd A (ocs z.l) :: .blk g19 3 [.int .i64 (q : Int)] :: .blk g12 43 ZI :: .blk g10 4 [.bool false] :: .blk g7 59 [.slice SA ns cs] :: T) w' → (Blk w' g21 Z 37 ∧ Blk w' g12 ZI 43) ∧ Blk w' g7 [.slice SA ns cs] 59 from fun _ h => ⟨⟨h.hold (.blk g21 _ Z) (by simp), h.hold (.blk g12 _ ZI) (by simp)⟩, h.hold (.blk g7 _ _) (by simp)⟩)
    repeat (first | refine wpIn_block ?_ | refine wpIn_seq ?_)
    refine Se.chI 23 (fun wx => (Blk wx g21 Z 37 ∧ Blk wx g12 ZI 43) ∧ Blk wx g7 [.slice SA ns cs] 59) (fun | 13 => true | 20 => true | _ => false) (by repeat (first | exact Se.roundSt_out | exact Se.falsePost_out | refine Se.then_out ?_ | refine Se.block_out ?_)) (by rfl) (by kernel_rfl) (by decide +kernel) (SA'.out _ hs.drew) ?_
    replace hs := hs.drew
    generalize w.drew = w at hs ⊢
    change Ch.CW _ _ _ _ _ [0, 1, 2, 3, 4, 5, 6, 7, 8, 9, 10, 11, 12, 13, 14, 15, 16, 17, 18, 19, 20, 21, 22] _ _
    iterate 13 ((first | (refine Ch.pure (v := ?_) (by rfl) (by rfl) (by rfl) (fun wx hS => ?_) ?_; rotate_left; (focus (go_simp; (first | done | with_reducible rfl)))) | refine Ch.pure (v := _) (by rfl) (by rfl) (by rfl) (fun wx hS => Se.xl rfl rfl (by rw [(hS.1.2).cell]; exact Z5.out) (by decide +kernel)) ?_ | refine Ch.pure (v := _) (by rfl) (by rfl) (by rfl) (fun wx hS => Se.xla rfl rfl (Li.Rd.of_blk hS.1.1) (by rw [ZVL.out] <;> kernel_rfl) (by kernel_rfl)) ?_ | refine Ch.pure (v := _) (by rfl) (by rfl) (by rfl) (fun wx hS => Se.xla rfl rfl (Li.Rd.of_blk hS.1.2) (by rw [ZLn.out] <;> kernel_rfl) (by kernel_rfl)) ?_); (try simp only [Act.put, List.setIfInBounds_toArray, List.set_cons_zero, List.set_cons_succ]))
    refine Ch.noise (by rfl) (by rfl) (by rfl) ?_
    refine Se.gcall (f := 20) (args := #[.agg ZI.toArray, .int .i64 (x : Int)]) ?_ ?_
    ·go_simp
    refine Calls.mono (CRZ.out _ _ hs (by simp)) ?_
    clear hs
    rintro e w ⟨rfl, hs⟩
    refine ⟨_, rfl, SA'.out _ hs, ?_⟩
    (try simp only [Act.put, List.setIfInBounds_toArray, List.set_cons_zero, List.set_cons_succ])
    iterate 6 ((first | (refine Ch.pure (v := ?_) (by rfl) (by rfl) (by rfl) (fun wx hS => ?_) ?_; rotate_left; (focus (go_simp; (first | done | with_reducible rfl)))) | refine Ch.pure (v := _) (by rfl) (by rfl) (by rfl) (fun wx hS => Se.xl rfl rfl (by rw [(hS.1.1).cell]; exact Z0.out) (by decide +kernel)) ?_ | refine Ch.pure (v := _) (by rfl) (by rfl) (by rfl) (fun wx hS => Se.xl rfl rfl (by rw [(hS.2).cell]; rfl) (by decide +kernel)) ?_); (try simp only [Act.put, List.setIfInBounds_toArray, List.set_cons_zero, List.set_cons_succ]))
    refine Ch.noise (by rfl) (by rfl) (by rfl) ?_
    refine Se.gcall (f := 26) (args := #[iv st, .slice SA ns cs]) ?_ ?_
    ·go_simp
    refine Calls.mono (CIN.out _ _ hs (by simp)) ?_
    clear hs
    rintro e w ⟨rfl, hs⟩
    refine ⟨_, rfl, SA'.out _ hs, ?_⟩
    (try simp only [Act.put, List.setIfInBounds_toArray, List.set_cons_zero, List.set_cons_succ])
    iterate 2 ((first | (refine Ch.pure (v := ?_) (by rfl) (by rfl) (by rfl) (fun wx hS => ?_) ?_; rotate_left; (focus (go_simp; (first | done | with_reducible rfl))))); (try simp only [Act.put, List.setIfInBounds_toArray, List.set_cons_zero, List.set_cons_succ]))
    refine Ch.done ?_
    try simp only [List.drop_succ_cons, List.drop_zero]
    change Code.wpIn (Se.WF (some l)) 0 Try.prog _ _ _ _
    refine wpIn_cond_false rfl (wpIn_skip ?_)
    have hs := hs.drop
    have hw := IntWalk.i64_in ((q : Int) + 1) (by omega)
    change Code.wpIn (Se.WF (some l)) 0 Try.prog _ _ _ _
    refine Se.regI (by repeat (first | exact Se.roundSt_out | exact Se.falsePost_out | refine Se.then_out ?_ | refine Se.block_out ?_)) (by rfl) ?_
    go_wp2_with (first | ((with_reducible refine Se.isL (o := ⟨some 108, _, _, _, _, _⟩) ?_); (refine Se.toL rfl (Se.ld (o := ⟨some 108, _, _, _, _, _⟩) hs rfl rfl (Cell.blk 2 rfl rfl) (by kernel_rfl) ?_))) | ((with_reducible refine Se.isL (o := ⟨none, Op.store 3 _ _, _, _, _, _⟩) ?_); ((first | refine Se.toL rfl (Se.so 2 (v := .int _ _) hs rfl rfl rfl rfl rfl (by kernel_rfl) (by simp) ?_) | refine Se.toL rfl (Se.so 2 (v := .bool _) hs rfl rfl rfl rfl rfl (by kernel_rfl) (by simp) ?_) | refine Se.toL rfl (Se.so 2 (v := .slice _ _ _) hs rfl rfl rfl rfl rfl (by kernel_rfl) (by simp) ?_) | refine Se.toL rfl (Se.so 2 (v := .pointer _) hs rfl rfl rfl rfl rfl (by kernel_rfl) (by simp) ?_) | refine Se.toL rfl (Se.so 2 (v := .string _) hs rfl rfl rfl rfl rfl (by kernel_rfl) (by simp) ?_) | refine Se.toL rfl (Se.so 2 (v := .map _) hs rfl rfl rfl rfl rfl (by kernel_rfl) (by simp) ?_) | refine Se.toL rfl (Se.so 2 (v := .func _ _ _) hs rfl rfl rfl rfl rfl (by kernel_rfl) (by simp) ?_) | refine Se.toL rfl (Se.so 2 (v := .nilFunc) hs rfl rfl rfl rfl rfl (by kernel_rfl) (by simp) ?_)); clear hs; intro w hs; try simp only [List.cons_append, List.nil_append, List.set_cons_zero, List.set_cons_succ] at hs)))
    (try simp only [Exit.then])
    have e : ((q + 1 : Nat) : Int) = (q : Int) + 1 := by omega
    refine ⟨_, rfl, ?_⟩
    rw [e]
    exact hs
   ·rintro Dd Lb w rfl hs
    simp only [Exit.inBlock, Exit.then]
    go_at_K
    simp only [List.cons_append, List.nil_append] at hs
    obtain ⟨m, hm⟩ : ∃ m, m = NS.length := ⟨_, rfl⟩
    rw [← hm] at hs
    have HM := Lib.hid (show m = (numsT (inS sl) z.l k).length by rw [hm, HNE.out])
    have hmk : m ≤ k := by rw [hm]; exact hm4
    clear hm hm4 HSeq
    go_wp2_with fail
    clear SLM HNM
    go_loopg [22] k (fun gh s22 wr => ∃ (j d : Nat), gh = k - j ∧ j ≤ k ∧ s22 = .int .i64 (j : Int) ∧ Hid (d = (numsT (inS sl) z.l j).length ∧ d ≤ j) ∧ St w0 X (.rd SA (ints sl) :: .rd A (ocs z.l) :: .blk g19 3 [.int .i64 ((m : Int) - (d : Int))] :: .blk g12 43 ZI :: .blk g10 4 [.bool false] :: .blk g7 59 [.slice SA ns cs] :: (M ++ Se.dpc Dd :: .blk g17 43 ZN :: pZ g' z' (some a') c' :: pL r' (some a') c' z' :: .rd A' (ocs z'.l) :: .blk g9 57 AC :: .blk g5 24 C :: pZ g2 z (some a2) c2 :: pL r2 (some a2) c2 z :: L)) wr)
    case atStart => exact ⟨0, 0, rfl, Nat.zero_le _, rfl, Lib.hid ⟨rfl, Nat.le_refl _⟩, by rw [show (m : Int) - ((0 : Nat) : Int) = (m : Int) by omega]; exact hs⟩
    case round =>
     clear hs
     rename World => w
     obtain ⟨j, d, rfl, hj, rfl, HD, hs⟩ := hrel
     by_cases hlt : j < k
     ·have hlt' : (j : Int) < (k : Int) := by omega
      have hjl : j < z.l.length := by rw [← HK.out]; exact hlt
      obtain ⟨ga, oa, rfl, -, -⟩ := ((Reads.rd 1 rfl : Reads _ A (ocs z.l)) w (fun b hb => hs.hold b hb)).cells (ocs_ne (by omega))
      obtain ⟨st, hst⟩ : ∃ s, s = (z.l.getD j dz).st := ⟨_, rfl⟩
      have f1 : decide ((k : Int) ≤ (j : Int)) = false := by simpa using hlt
      have f2 : decide (k ≤ j) = false := by simpa using hlt
      have hd2 : d ≤ 4096 := by have := HD.out.2; omega
      obtain ⟨b, hb⟩ : ∃ b, b = inS sl (z.l.getD j dz) := ⟨_, rfl⟩
      have HB := Lib.hid hb.symm
      have CIN : Hid (∀ (M' : List At) (w : World), St w0 X M' w → At.rd SA (ints sl) ∈ M' → Calls Try.prog 26 #[iv st, .slice SA ns cs] w fun e w' => e = .returned (.bool b) ∧ St w0 X M' w') := Lib.hid (fun M' w hs hm => by
       have h := in_st hs HNS.out (Reads.rdm hm) (by omega) (z.l.getD j dz) (c := cs)
       rw [← hb, ← hst] at h
       exact h)
      have SA2 := Lib.hid (show ∀ w', St w0 X (.rd SA (ints sl) :: .rd (some ⟨ga, oa, none⟩) (ocs z.l) :: .blk g19 3 [.int .i64 ((m : Int) - (d : Int))] :: .blk g12 43 ZI :: .blk g10 4 [.bool false] :: .blk g7 59 [.slice SA ns cs] :: (M ++ Se.dpc Dd :: .blk g17 43 ZN :: pZ g' z' (some a') c' :: pL r' (some a') c' z' :: .rd A' (ocs z'.l) :: .blk g9 57 AC :: .blk g5 24 C :: pZ g2 z (some a2) c2 :: pL r2 (some a2) c2 z :: L)) w' → (Blk w' g12 ZI 43 ∧ Blk w' g7 [.slice SA ns cs] 59) ∧ w'.cell? ⟨ga, oa + j * 3, none⟩ = some (iv st) from fun _ h => ⟨⟨h.hold (.blk g12 _ ZI) (by simp), h.hold (.blk g7 _ _) (by simp)⟩, (rcell (Reads.rd 1 rfl) hjl 0 (by decide) (by rw [hst]; rfl)) _ h.hold⟩)
      clear hst hb hjl
      cases b
      ·skip
       have HE := Lib.hid (numsT_f HB.out)
       go_upto_region 23 with (first | ((with_reducible refine Se.isL (o := ⟨some 112, _, _, _, _, _⟩) ?_); (refine Se.toL rfl (Se.ld (o := ⟨some 112, _, _, _, _, _⟩) hs rfl rfl (Cell.blk 3 rfl Z5.out) (by kernel_rfl) ?_))))
       refine Ch.region' 8 (fun wx => (Blk wx g12 ZI 43 ∧ Blk wx g7 [.slice SA ns cs] 59) ∧ wx.cell? ⟨ga, oa + j * 3, none⟩ = some (iv st)) (fun | 7 => true | _ => false) (by kernel_rfl) (by decide +kernel) (SA2.out _ hs.drew) ?_
       replace hs := hs.drew
       generalize w.drew = w at hs ⊢
       change Ch.CW _ _ _ _ _ [0, 1, 2, 3, 4, 5, 6, 7] _ _
       iterate 7 ((first | (refine Ch.pure (v := ?_) (by rfl) (by rfl) (by rfl) (fun wx hS => ?_) ?_; rotate_left; (focus (go_simp; (first | done | with_reducible rfl)))) | refine Ch.pure (v := _) (by rfl) (by rfl) (by rfl) (fun wx hS => Se.xl rfl rfl (by rw [(hS.1.1).cell]; exact Z5.out) (by decide +kernel)) ?_ | refine Ch.pure (v := _) (by rfl) (by rfl) (by rfl) (fun wx hS => Se.xl rfl rfl (by rw [(hS.1.2).cell]; rfl) (by decide +kernel)) ?_ | refine Ch.pure (v := _) (by rfl) (by rfl) (by rfl) (fun wx hS => Se.xl rfl rfl hS.2 (by decide +kernel)) ?_); (try simp only [Act.put, List.setIfInBounds_toArray, List.set_cons_zero, List.set_cons_succ]))
       refine Ch.noise (by rfl) (by rfl) (by rfl) ?_
       refine Se.gcall (f := 26) (args := #[iv st, .slice SA ns cs]) ?_ ?_
       ·go_simp
       refine Calls.mono (CIN.out _ _ hs (by simp)) ?_
       clear hs
       rintro e w ⟨rfl, hs⟩
       refine ⟨_, rfl, SA2.out _ hs, ?_⟩
       (try simp only [Act.put, List.setIfInBounds_toArray, List.set_cons_zero, List.set_cons_succ])
       refine Ch.done ?_
       try simp only [List.drop_succ_cons, List.drop_zero]
       go_wp2_with fail
       go_roundg (k - (j + 1))
       case measure => omega
       case rel => exact ⟨j + 1, d, rfl, by omega, by go_num, Lib.hid ⟨by rw [HE.out, ← HD.out.1], by have := HD.out.2; omega⟩, hs⟩
      ·skip
       have HE := Lib.hid (numsT_t HB.out)
       have hw := IntWalk.i64_in ((m : Int) - (d : Int) - 1) (by omega)
       go_upto_region 23 with (first | ((with_reducible refine Se.isL (o := ⟨some 112, _, _, _, _, _⟩) ?_); (refine Se.toL rfl (Se.ld (o := ⟨some 112, _, _, _, _, _⟩) hs rfl rfl (Cell.blk 3 rfl Z5.out) (by kernel_rfl) ?_))))
       refine Ch.region' 8 (fun wx => (Blk wx g12 ZI 43 ∧ Blk wx g7 [.slice SA ns cs] 59) ∧ wx.cell? ⟨ga, oa + j * 3, none⟩ = some (iv st)) (fun | 7 => true | _ => false) (by kernel_rfl) (by decide +kernel) (SA2.out _ hs.drew) ?_
       replace hs := hs.drew
       generalize w.drew = w at hs ⊢
       change Ch.CW _ _ _ _ _ [0, 1, 2, 3, 4, 5, 6, 7] _ _
       iterate 7 ((first | (refine Ch.pure (v := ?_) (by rfl) (by rfl) (by rfl) (fun wx hS => ?_) ?_; rotate_left; (focus (go_simp; (first | done | with_reducible rfl)))) | refine Ch.pure (v := _) (by rfl) (by rfl) (by rfl) (fun wx hS => Se.xl rfl rfl (by rw [(hS.1.1).cell]; exact Z5.out) (by decide +kernel)) ?_ | refine Ch.pure (v := _) (by rfl) (by rfl) (by rfl) (fun wx hS => Se.xl rfl rfl (by rw [(hS.1.2).cell]; rfl) (by decide +kernel)) ?_ | refine Ch.pure (v := _) (by rfl) (by rfl) (by rfl) (fun wx hS => Se.xl rfl rfl hS.2 (by decide +kernel)) ?_); (try simp only [Act.put, List.setIfInBounds_toArray, List.set_cons_zero, List.set_cons_succ]))
       refine Ch.noise (by rfl) (by rfl) (by rfl) ?_
       refine Se.gcall (f := 26) (args := #[iv st, .slice SA ns cs]) ?_ ?_
       ·go_simp
       refine Calls.mono (CIN.out _ _ hs (by simp)) ?_
       clear hs
       rintro e w ⟨rfl, hs⟩
       refine ⟨_, rfl, SA2.out _ hs, ?_⟩
       (try simp only [Act.put, List.setIfInBounds_toArray, List.set_cons_zero, List.set_cons_succ])
       refine Ch.done ?_
       try simp only [List.drop_succ_cons, List.drop_zero]
       go_wp2_with (first | ((with_reducible refine Se.isL (o := ⟨some 125, _, _, _, _, _⟩) ?_); (refine Se.toL rfl (Se.ld (o := ⟨some 125, _, _, _, _, _⟩) hs rfl rfl (Cell.blk 2 rfl rfl) (by kernel_rfl) ?_))) | ((with_reducible refine Se.isL (o := ⟨none, Op.store 3 _ _, _, _, _, _⟩) ?_); ((first | refine Se.toL rfl (Se.so 2 (v := .int _ _) hs rfl rfl rfl rfl rfl (by kernel_rfl) (by simp) ?_) | refine Se.toL rfl (Se.so 2 (v := .bool _) hs rfl rfl rfl rfl rfl (by kernel_rfl) (by simp) ?_) | refine Se.toL rfl (Se.so 2 (v := .slice _ _ _) hs rfl rfl rfl rfl rfl (by kernel_rfl) (by simp) ?_) | refine Se.toL rfl (Se.so 2 (v := .pointer _) hs rfl rfl rfl rfl rfl (by kernel_rfl) (by simp) ?_) | refine Se.toL rfl (Se.so 2 (v := .string _) hs rfl rfl rfl rfl rfl (by kernel_rfl) (by simp) ?_) | refine Se.toL rfl (Se.so 2 (v := .map _) hs rfl rfl rfl rfl rfl (by kernel_rfl) (by simp) ?_) | refine Se.toL rfl (Se.so 2 (v := .func _ _ _) hs rfl rfl rfl rfl rfl (by kernel_rfl) (by simp) ?_) | refine Se.toL rfl (Se.so 2 (v := .nilFunc) hs rfl rfl rfl rfl rfl (by kernel_rfl) (by simp) ?_)); clear hs; intro w hs; try simp only [List.cons_append, List.nil_append, List.set_cons_zero, List.set_cons_succ] at hs)))
       go_roundg (k - (j + 1))
       case measure => omega
       case rel => exact ⟨j + 1, d + 1, rfl, by omega, by go_num, Lib.hid ⟨by rw [HE.out, List.length_append, ← HD.out.1]; rfl, by have := HD.out.2; omega⟩, by rw [show (m : Int) - ((d + 1 : Nat) : Int) = (m : Int) - (d : Int) - 1 by omega]; exact hs⟩
     ·obtain rfl : j = k := by omega
      have hd : d = m := by rw [HM.out]; exact HD.out.1
      clear HM HD HNE
      subst hd
      rw [show (d : Int) - (d : Int) = 0 by omega] at hs
      replace hs := Se.St.mid (Lb := [_, _, _, _, _, _]) hs
      replace hs := hs.perm (List.Perm.append_left [_, _, _, _, _, _, _] (List.perm_append_comm_assoc M [_, _, _, _, _, _, _, _] L))
      simp only [List.cons_append, List.nil_append] at hs
      replace hs := hs.pull 0 rfl
      replace hs := hs.pull 1 rfl
      replace hs := hs.pull 12 rfl
      replace hs := hs.pull 7 rfl
      replace hs := hs.pull 12 rfl
      replace hs := hs.pull 8 rfl
      replace hs := hs.pull 8 rfl
      replace hs := hs.pull 8 rfl
      replace hs := hs.pull 9 rfl
      replace hs := hs.pull 9 rfl
      replace hs := hs.pull 14 rfl
      replace hs := hs.pull 14 rfl
      replace hs := hs.pull 14 rfl
      replace hs := hs.pull 14 rfl
      replace hs := hs.pull 14 rfl
      simp only [List.eraseIdx_cons_succ, List.eraseIdx_cons_zero] at hs
      go_wp2_with (first | ((with_reducible refine Se.isL (o := ⟨some 112, _, _, _, _, _⟩) ?_); (refine Se.toL rfl (Se.ld (o := ⟨some 112, _, _, _, _, _⟩) hs rfl rfl (Cell.blk 8 rfl Z5.out) (by kernel_rfl) ?_))) | ((with_reducible refine Se.isL (o := ⟨some 129, _, _, _, _, _⟩) ?_); (refine Se.toL rfl (Se.ld (o := ⟨some 129, _, _, _, _, _⟩) hs rfl rfl (Cell.blk 7 rfl rfl) (by kernel_rfl) ?_))) | ((with_reducible refine Se.isL (o := ⟨some 134, _, _, _, _, _⟩) ?_); (refine Se.toL rfl (Se.ldw (o := ⟨some 134, _, _, _, _, _⟩) hs rfl rfl ((Reads.blk 6 rfl)) ((by rw [NLn.out]; kernel_rfl)) (by kernel_rfl) ?_))) | ((with_reducible refine Se.isL (o := ⟨some 139, _, _, _, _, _⟩) ?_); (refine Se.toL rfl (Se.ldw (o := ⟨some 139, _, _, _, _, _⟩) hs rfl rfl ((Reads.blk 8 rfl)) ((by rw [ZLn.out]; kernel_rfl)) (by kernel_rfl) ?_))) | ((with_reducible refine Se.isL (o := ⟨none, Op.store 4 _ _, _, _, _, _⟩) ?_); ((first | refine Se.toL rfl (Se.so 9 (v := .int _ _) hs rfl rfl rfl rfl rfl (by kernel_rfl) (by simp) ?_) | refine Se.toL rfl (Se.so 9 (v := .bool _) hs rfl rfl rfl rfl rfl (by kernel_rfl) (by simp) ?_) | refine Se.toL rfl (Se.so 9 (v := .slice _ _ _) hs rfl rfl rfl rfl rfl (by kernel_rfl) (by simp) ?_) | refine Se.toL rfl (Se.so 9 (v := .pointer _) hs rfl rfl rfl rfl rfl (by kernel_rfl) (by simp) ?_) | refine Se.toL rfl (Se.so 9 (v := .string _) hs rfl rfl rfl rfl rfl (by kernel_rfl) (by simp) ?_) | refine Se.toL rfl (Se.so 9 (v := .map _) hs rfl rfl rfl rfl rfl (by kernel_rfl) (by simp) ?_) | refine Se.toL rfl (Se.so 9 (v := .func _ _ _) hs rfl rfl rfl rfl rfl (by kernel_rfl) (by simp) ?_) | refine Se.toL rfl (Se.so 9 (v := .nilFunc) hs rfl rfl rfl rfl rfl (by kernel_rfl) (by simp) ?_)); clear hs; intro w hs; try simp only [List.cons_append, List.nil_append, List.set_cons_zero, List.set_cons_succ] at hs)) | (go_at_call 19; refine Calls.mono (is_st hs HNX.out.1 HZN.out) ?_; clear hs; rintro e w ⟨rfl, hs⟩) | (go_at_call 19; refine Calls.mono (is_M (M := [_, _, _]) hs HO.out.1 HZ.out) ?_; clear hs; rintro e w ⟨rfl, hs⟩) | (go_at_call 8; refine Calls.mono (works_st hs) ?_; clear hs; rintro e w ⟨rfl, hs⟩))
      refine Se.leave1 (hs.pull 14 rfl) ?_
      clear hs
      intro w hs
      refine Se.leave0 (Se.results_cell1 hs rfl rfl (Cell.blk 9 rfl rfl) (by kernel_rfl)) ⟨rfl, ?_⟩
      exact (hs.drop.drop.drop.drop.drop.drop.drop.drop.drop.drop.drop.drop.drop.drop).sub (List.sublist_append_right _ _)
   ·rintro _ _ _ _ _ _ hf _
    exact hf.elim
theorem eachlaw_any {W : World} {n sz cap mo ma many wh zi off nn : Int} {A0 SA : Option Addr} {nl cl ns cs : Nat} {acs : List Ac} {sl : List Int} (hn : nn ≤ 9223372036854775807) (hl : nl = acs.length) (hr : Rd W A0 (acs.flatMap ac)) (hok : ∀ a ∈ acs, a.n ≤ 9223372036854775807) (hns : ns = sl.length) (hsl : Rd W SA (ints sl)) :
  Calls Try.prog 6 #[.agg #[.int .i64 n, .int .i64 sz, .int .i64 cap, .int .i64 mo, .int .i64 ma], .slice A0 nl cl, .slice SA ns cs, .int .i64 many, .agg #[.int .i64 wh, .int .i64 zi, .int .i64 off, .int .i64 nn]] W fun e w' => e = .returned (.bool true) ∧ Below W.heap.size W w' := by
 have hs : St W [] [.rd A0 (acs.flatMap ac), .rd SA (ints sl)] W := St.start W (fun a ha => by
  rcases List.mem_cons.1 ha with rfl | ha
  ·exact hr
  ·obtain rfl := List.mem_singleton.1 ha; exact hsl) rfl
 by_cases h : 60 < n ∨ okC n sz cap mo ma = false
 ·exact (eachlaw_no hs (AC := [.int .i64 wh, .int .i64 zi, .int .i64 off, .int .i64 nn]) h).mono fun _ _ ⟨h1, h2⟩ => ⟨h1, h2.below⟩
 ·have hok2 : okC n sz cap mo ma = true := by
   cases hc : okC n sz cap mo ma with
   | true => rfl
   | false => exact absurd (.inr hc) h
  obtain ⟨c, rfl, rfl, rfl, rfl, rfl⟩ := cf_of hok2
  exact (eachlaw_yes hs hok2 (by omega) (one := ⟨wh, zi, off, nn⟩) (AC := [.int .i64 wh, .int .i64 zi, .int .i64 off, .int .i64 nn]) rfl hn hl (Reads.rd 0 rfl) hok hns (by simp)).mono fun _ _ ⟨h1, h2⟩ => ⟨h1, h2.below⟩
end Zo
end Go.Proofs.Ythpgkkfahiglnaa


/- Layer 28's laws: ZonePlays. No condition but Go's own limits. Printed by wip/gen_zonelaw6.py. -/
import Derived.Test.YthpgkkfahiglnaaZoneLaw6
set_option linter.unusedSimpArgs false
set_option linter.unusedVariables false
namespace Go.Proofs.Ythpgkkfahiglnaa
open Go Go.RowKit
namespace Zo
open Se (St At Reads Cell)
open Li (Rd Blk Fr)
variable {w0 w : World} {X : List Nat} {L : List At}
attribute [local irreducible] Calls
set_option maxRecDepth 100000 in
set_option maxRecDepth 100000 in
set_option maxHeartbeats 4000000 in
theorem plays_no (hs : St w0 X L w) {n sz cap mo ma : Int} {A : Option Addr} {nl cl : Nat} (h : 60 < n ∨ okC n sz cap mo ma = false) :
  Calls Try.prog 5 #[.agg #[.int .i64 n, .int .i64 sz, .int .i64 cap, .int .i64 mo, .int .i64 ma], .slice A nl cl] w fun e w' => e = .returned (.bool true) ∧ St w0 X L w' := by
 obtain ⟨C, hC⟩ : ∃ C, C = [Value.int .i64 n, .int .i64 sz, .int .i64 cap, .int .i64 mo, .int .i64 ma] := ⟨_, rfl⟩
 have CLn := Lib.hid (show C.length = 5 by rw [hC]; rfl)
 have hC2 : #[Value.int .i64 n, .int .i64 sz, .int .i64 cap, .int .i64 mo, .int .i64 ma] = C.toArray := by rw [hC]
 obtain ⟨RZ0, hRZ0⟩ : ∃ R, R = zcl { c := ⟨0, 0, 0, 0, 0⟩, l := [] } none 0 := ⟨_, rfl⟩
 have ZL0 := Lib.hid (show RZ0.length = 7 by rw [hRZ0]; rfl)
 have ZO := Lib.hid (show ∀ v ∈ RZ0, v.oneCell' = true by rw [hRZ0]; exact zcl_one _ _ _)
 have zRz' := Lib.hid zRz
 rw [← hRZ0] at zRz'
 have CM : Hid (∀ (L : List At) (w : World), St w0 X L w → Calls Try.prog 21 #[.agg C.toArray] w fun e w' => e = .returned (.tuple #[.pointer none, .agg RZ0.toArray, .bool false]) ∧ St w0 X L w') := Lib.hid (fun L w hs => by rw [← hC2, hRZ0]; exact made_no hs h)
 rw [hC2]
 clear h hC hC2 hRZ0
 go_enter Try.func5, Try.ntmps5
 go_wp2_with (first | ((with_reducible refine Se.isL (o := ⟨some 13, _, _, _, _, _⟩) ?_); (refine Se.toL rfl (Se.ldw (o := ⟨some 13, _, _, _, _, _⟩) hs rfl rfl ((Reads.blk 0 rfl)) ((by rw [CLn.out]; kernel_rfl)) (by kernel_rfl) ?_))) | ((with_reducible refine Se.isL (o := ⟨some 6, _, _, _, _, _⟩) ?_); (refine Se.toL rfl (Se.al (o := ⟨some 6, _, _, _, _, _⟩) hs rfl (zRz'.out) ?_); clear hs; rintro w g6 - hs)) | ((with_reducible refine Se.isL (o := ⟨none, _, _, _, _, _⟩) ?_); (refine Se.toL rfl (Se.sow 0 hs rfl rfl rfl rfl (ZO.out) ((by rw [ZL0.out]; kernel_rfl)) (rfl) ?_); clear hs; intro w hs; try simp only [List.cons_append, List.nil_append, List.set_cons_zero] at hs)) | ((first | with_reducible refine Se.ab hs ?_ | with_reducible refine Se.abc hs ?_); clear hs; (first | (generalize w.heap.size = g2; intro w hs))) | (go_at_call 21; refine Calls.mono (CM.out _ _ hs) ?_; clear hs; rintro e w ⟨rfl, hs⟩) | (go_at_call 8; refine Calls.mono (works_st hs) ?_; clear hs; rintro e w ⟨rfl, hs⟩))
 go_ret
 exact ⟨rfl, hs.drop.drop⟩
set_option maxRecDepth 100000 in
set_option maxRecDepth 100000 in
set_option maxHeartbeats 4000000 in
theorem plays_yes (hs : St w0 X L w) {c : Cf} (h : okC c.n c.sz c.cap c.mo c.ma = true) (h60 : c.n ≤ 60) {A0 : Option Addr} {nl cl : Nat} {acs : List Ac} (hl : nl = acs.length) (hr : Reads L A0 (acs.flatMap ac)) (hok : ∀ a ∈ acs, a.n ≤ 9223372036854775807) :
  Calls Try.prog 5 #[.agg #[iv c.n, iv c.sz, iv c.cap, iv c.mo, iv c.ma], .slice A0 nl cl] w fun e w' => e = .returned (.bool true) ∧ St w0 X L w' := by
 obtain ⟨C, hC⟩ : ∃ C, C = Zo.cl c := ⟨_, rfl⟩
 have CLn := Lib.hid (show C.length = 5 by rw [hC]; rfl)
 have hC2 : #[iv c.n, iv c.sz, iv c.cap, iv c.mo, iv c.ma] = C.toArray := by rw [hC]; rfl
 obtain ⟨RZ0, hRZ0⟩ : ∃ R, R = zcl { c := ⟨0, 0, 0, 0, 0⟩, l := [] } none 0 := ⟨_, rfl⟩
 have ZL0 := Lib.hid (show RZ0.length = 7 by rw [hRZ0]; rfl)
 have zRz' := Lib.hid zRz
 rw [← hRZ0] at zRz'
 have CM : Hid (∀ (L : List At) (w : World), St w0 X L w → Calls Try.prog 21 #[.agg C.toArray] w fun e w' => ∃ g a r cc A ZI, e = .returned (.tuple #[.pointer (some ⟨g, 0, none⟩), .agg ZI.toArray, .bool true]) ∧ RZ (newZ c) A ZI ∧ St w0 X (pZ g (newZ c) (some a) cc :: pL r (some a) cc (newZ c) :: .rd A (ocs (newZ c).l) :: L) w') := Lib.hid (fun L w hs => by rw [← hC2]; exact made_yes hs h h60)
 have HOK0 := Lib.hid (show OkZ (newZ c) ∧ (newZ c).w ≤ 0 from ⟨OkZ.new h, Nat.le_refl _⟩)
 have HL := Lib.hid hl
 have HR := Lib.hid hr
 have HK := Lib.hid hok
 rw [hC2]
 clear h h60 hC hC2 hRZ0 hl hr hok
 go_enter Try.func5, Try.ntmps5
 go_upto_region 2 with (first | ((with_reducible refine Se.isL (o := ⟨some 13, _, _, _, _, _⟩) ?_); (refine Se.toL rfl (Se.ldw (o := ⟨some 13, _, _, _, _, _⟩) hs rfl rfl ((Reads.blk 0 rfl)) ((by rw [CLn.out]; kernel_rfl)) (by kernel_rfl) ?_))) | ((with_reducible refine Se.isL (o := ⟨some 6, _, _, _, _, _⟩) ?_); (refine Se.toL rfl (Se.al (o := ⟨some 6, _, _, _, _, _⟩) hs rfl (zRz'.out) ?_); clear hs; rintro w g6 - hs)) | ((with_reducible refine Se.isL (o := ⟨none, _, _, _, _, _⟩) ?_); (refine Se.toL rfl (Se.sow 0 hs rfl rfl rfl rfl (hz.one) ((by rw [hz.len]; kernel_rfl)) ((by rw [hz.len, ZL0.out])) ?_); clear hs; intro w hs; try simp only [List.cons_append, List.nil_append, List.set_cons_zero] at hs)) | ((first | with_reducible refine Se.ab hs ?_ | with_reducible refine Se.abc hs ?_); clear hs; (first | (generalize w.heap.size = g2; intro w hs))) | (go_at_call 21; refine Calls.mono (CM.out _ _ hs) ?_; clear hs; rintro e w ⟨g, a, r, cc, A, ZI, rfl, hz, hs⟩))
 have HZ := Lib.hid hz
 clear hz CM
 by_cases h40 : 40 < nl
 ·have f1 : decide (40 < (nl : Int)) = true := by simp; omega
  have f2 : decide (40 < nl) = true := by simpa using h40
  clear h40
  go_wp2_with (first | (go_at_call 8; refine Calls.mono (works_st hs) ?_; clear hs; rintro e w ⟨rfl, hs⟩))
  go_ret
  exact ⟨rfl, hs.drop.drop.drop.drop.drop⟩
 have f1 : decide (40 < (nl : Int)) = false := by simp; omega
 have f2 : decide (40 < nl) = false := by simpa using h40
 go_wp2_with fail
 clear f1 f2
 replace hs := hs.pull 4 rfl
 replace hs := hs.pull 1 rfl
 replace hs := hs.pull 4 rfl
 replace hs := hs.pull 4 rfl
 replace hs := hs.pull 4 rfl
 simp only [List.eraseIdx_cons_succ, List.eraseIdx_cons_zero] at hs
 obtain ⟨z, hzz⟩ : ∃ z, z = newZ c := ⟨_, rfl⟩
 rw [← hzz] at hs HZ HOK0
 clear hzz
 have hnl : nl ≤ 40 := by omega
 clear h40
 go_loopg [5, 8] nl (fun gh s5 s8 wr => ∃ (j : Nat) (z : Zs) (g : Nat) (a : Addr) (r : Option Nat) (cc : Nat) (A : Option Addr) (ZI : List Value), gh = nl - j ∧ j ≤ nl ∧ s8 = .int .i64 (j : Int) ∧ s5 = .pointer (some ⟨g, 0, none⟩) ∧ Hid (OkZ z ∧ z.w ≤ j) ∧ Hid (RZ z A ZI) ∧ St w0 X (pZ g z (some a) cc :: pL r (some a) cc z :: .rd A (ocs z.l) :: .blk g6 43 ZI :: .blk g2 24 C :: L) wr)
 case atStart => exact ⟨0, z, g, a, r, cc, A, ZI, rfl, Nat.zero_le _, rfl, rfl, HOK0, HZ, hs⟩
 case round =>
  clear hs HZ HOK0
  rename World => w
  obtain ⟨j, z, g, a, r, cc, A, ZI, rfl, hj, rfl, rfl, HO, HZ, hs⟩ := hrel
  have ZLn := Lib.hid HZ.out.len
  by_cases hlt : j < nl
  ·have hlt' : (j : Int) < (nl : Int) := by omega
   have hjl : j < acs.length := by rw [← HL.out]; exact hlt
   obtain ⟨ga, oa, rfl, -, -⟩ := (HR.out w (fun b hb => hs.hold b (by simp [hb]))).cells (acs_ne (by omega))
   obtain ⟨x, hx⟩ : ∃ x, x = acs[j] := ⟨_, rfl⟩
   have HRX : Hid (∀ M : List At, Reads (M ++ L) (some ⟨ga, oa + j * 4, none⟩) [.int .i64 x.wh, .int .i64 x.zi, .int .i64 x.off, .int .i64 x.n]) := Lib.hid (fun M => by
    have h := (row_ac HR.out hjl).app M
    rw [← hx] at h
    exact h)
   obtain ⟨AC, hAC⟩ : ∃ AC : List Value, AC = [.int .i64 x.wh, .int .i64 x.zi, .int .i64 x.off, .int .i64 x.n] := ⟨_, rfl⟩
   have ALn := Lib.hid (show AC.length = 4 by rw [hAC]; rfl)
   have CAC : Hid (∀ (M : List At) (w : World), St w0 X (M ++ pZ g z (some a) cc :: pL r (some a) cc z :: .rd A (ocs z.l) :: .blk g6 43 ZI :: .blk g2 24 C :: L) w → Calls Try.prog 22 #[.pointer (some ⟨g, 0, none⟩), .agg ZI.toArray, .agg AC.toArray] w fun e w' => ∃ z' g' a' r' c' A' ZN, e = .returned (.tuple #[.pointer (some ⟨g', 0, none⟩), .agg ZN.toArray, .bool true]) ∧ Nx z z' ∧ RZ z' A' ZN ∧ St w0 X (M ++ pZ g' z' (some a') c' :: pL r' (some a') c' z' :: .rd A' (ocs z'.l) :: .blk g6 43 ZI :: .blk g2 24 C :: L) w') := Lib.hid (fun M w hs => by
    rw [hAC]
    refine (act_st (hs.perm perm3.symm) HO.out.1 (by have := HO.out.2; omega) HZ.out (HK.out x (by rw [hx]; exact List.getElem_mem hjl))).mono ?_
    rintro e w ⟨-, z', g', a', r', c', A', ZN, h1, h2, h3, h4⟩
    exact ⟨z', g', a', r', c', A', ZN, h1, h2, h3, h4.perm perm3⟩)
   rw [← hAC] at HRX
   clear hx hjl hAC
   go_upto_region 7 with (fail)
   go_cut [9, 10, 11] (fun s9 s10 s11 wx => ∃ z' g' a' r' c' A' ZN g10, s9 = .pointer (some ⟨g', 0, none⟩) ∧ s10 = .pointer (some ⟨g10, 0, none⟩) ∧ s11 = .bool true ∧ Hid (Nx z z' ∧ RZ z' A' ZN) ∧ St w0 X (.blk g10 43 ZN :: pZ g' z' (some a') c' :: pL r' (some a') c' z' :: .rd A' (ocs z'.l) :: .blk g6 43 ZI :: .blk g2 24 C :: L) wx)
   case first =>
    refine Or.region 15 (fun wx => Blk wx g6 ZI 43 ∧ Rd wx (some ⟨ga, oa + j * 4, none⟩) AC) (fun | 6 => true | 11 => true | 13 => true | _ => false) (by kernel_rfl) (by decide +kernel) (⟨hs.drew.hold (.blk g6 43 ZI) (by simp), HRX.out [_, _, _, _, _] _ hs.drew.hold⟩) ?_
    replace hs := hs.drew
    generalize w.drew = w at hs ⊢
    change Or.AW _ _ _ _ _ 15 [0, 1, 2, 3, 4, 5, 6, 7, 8, 9, 10, 11, 12, 13, 14] _ _
    refine Or.pure 0 (v := ?_) (by rfl) (by decide +kernel) (by rfl) (by rfl) (by rfl) (fun wx hS => ?_) ?_; rotate_left; (focus (go_simp; (first | done | with_reducible rfl)))
    (try simp only [Act.put, List.setIfInBounds_toArray, List.set_cons_zero, List.set_cons_succ])
    change Or.AW _ _ _ _ _ 14 [1, 2, 3, 4, 5, 6, 7, 8, 9, 10, 11, 12, 13, 14] _ _
    refine Or.pure 1 (v := .agg ZI.toArray) (by rfl) (by decide +kernel) (by rfl) (by rfl) (by rfl) (fun wx hS => Se.xla rfl rfl (Li.Rd.of_blk hS.1) (by rw [ZLn.out] <;> kernel_rfl) (by kernel_rfl)) ?_
    (try simp only [Act.put, List.setIfInBounds_toArray, List.set_cons_zero, List.set_cons_succ])
    change Or.AW _ _ _ _ _ 13 [2, 3, 4, 5, 6, 7, 8, 9, 10, 11, 12, 13, 14] _ _
    refine Or.pure 2 (v := ?_) (by rfl) (by decide +kernel) (by rfl) (by rfl) (by rfl) (fun wx hS => ?_) ?_; rotate_left; (focus (go_simp; (first | done | with_reducible rfl)))
    (try simp only [Act.put, List.setIfInBounds_toArray, List.set_cons_zero, List.set_cons_succ])
    change Or.AW _ _ _ _ _ 12 [3, 4, 5, 6, 7, 8, 9, 10, 11, 12, 13, 14] _ _
    refine Or.pure 3 (v := ?_) (by rfl) (by decide +kernel) (by rfl) (by rfl) (by rfl) (fun wx hS => ?_) ?_; rotate_left; (focus (go_simp; (first | done | with_reducible rfl)))
    (try simp only [Act.put, List.setIfInBounds_toArray, List.set_cons_zero, List.set_cons_succ])
    change Or.AW _ _ _ _ _ 11 [4, 5, 6, 7, 8, 9, 10, 11, 12, 13, 14] _ _
    refine Or.pure 4 (v := ?_) (by rfl) (by decide +kernel) (by rfl) (by rfl) (by rfl) (fun wx hS => ?_) ?_; rotate_left; (focus (go_simp; (first | done | with_reducible rfl)))
    (try simp only [Act.put, List.setIfInBounds_toArray, List.set_cons_zero, List.set_cons_succ])
    change Or.AW _ _ _ _ _ 10 [5, 6, 7, 8, 9, 10, 11, 12, 13, 14] _ _
    refine Or.pure 5 (v := .agg AC.toArray) (by rfl) (by decide +kernel) (by rfl) (by rfl) (by rfl) (fun wx hS => Se.xla rfl rfl hS.2 (by rw [ALn.out] <;> kernel_rfl) (by kernel_rfl)) ?_
    (try simp only [Act.put, List.setIfInBounds_toArray, List.set_cons_zero, List.set_cons_succ])
    change Or.AW _ _ _ _ _ 9 [6, 7, 8, 9, 10, 11, 12, 13, 14] _ _
    refine Or.two 6 11 (by decide +kernel) (by decide +kernel) (by rfl) (by rfl) (by rfl) (by rfl) ?_ ?_
    ·skip
     refine Se.gcall (f := 22) (args := #[.pointer (some ⟨g, 0, none⟩), .agg ZI.toArray, .agg AC.toArray]) ?_ ?_
     ·go_simp
     refine Calls.mono (CAC.out [] _ hs) ?_
     clear hs
     rintro e w ⟨z', g', a', r', c', A', ZN, rfl, hnx, hzn, hs⟩
     refine ⟨_, rfl, ⟨hs.hold (.blk g6 43 ZI) (by simp), HRX.out [_, _, _, _, _] _ hs.hold⟩, ?_⟩
     (try simp only [Act.put, List.setIfInBounds_toArray, List.set_cons_zero, List.set_cons_succ])
     change Or.AW _ _ _ _ _ 8 [7, 8, 9, 10, 11, 12, 13, 14] _ _
     have NL := Lib.hid hzn.len
     have NO := Lib.hid hzn.one
     have HZN := Lib.hid (And.intro hnx hzn)
     clear hzn hnx CAC
     refine Or.pure 7 (v := ?_) (by rfl) (by decide +kernel) (by rfl) (by rfl) (by rfl) (fun wx hS => ?_) ?_; rotate_left; (focus (go_simp; (first | done | with_reducible rfl)))
     (try simp only [Act.put, List.setIfInBounds_toArray, List.set_cons_zero, List.set_cons_succ])
     change Or.AW _ _ _ _ _ 7 [8, 9, 10, 11, 12, 13, 14] _ _
     refine Or.pure 8 (v := ?_) (by rfl) (by decide +kernel) (by rfl) (by rfl) (by rfl) (fun wx hS => ?_) ?_; rotate_left; (focus (go_simp; (first | done | with_reducible rfl)))
     (try simp only [Act.put, List.setIfInBounds_toArray, List.set_cons_zero, List.set_cons_succ])
     change Or.AW _ _ _ _ _ 6 [9, 10, 11, 12, 13, 14] _ _
     refine Or.pure 9 (v := ?_) (by rfl) (by decide +kernel) (by rfl) (by rfl) (by rfl) (fun wx hS => ?_) ?_; rotate_left; (focus (go_simp; (first | done | with_reducible rfl)))
     (try simp only [Act.put, List.setIfInBounds_toArray, List.set_cons_zero, List.set_cons_succ])
     change Or.AW _ _ _ _ _ 5 [10, 11, 12, 13, 14] _ _
     refine Or.pure 10 (v := ?_) (by rfl) (by decide +kernel) (by rfl) (by rfl) (by rfl) (fun wx hS => ?_) ?_; rotate_left; (focus (go_simp; (first | done | with_reducible rfl)))
     (try simp only [Act.put, List.setIfInBounds_toArray, List.set_cons_zero, List.set_cons_succ])
     change Or.AW _ _ _ _ _ 4 [11, 12, 13, 14] _ _
     refine Or.one 11 (by decide +kernel) (by decide +kernel) (by rfl) (by rfl) ?_
     refine Se.al hs rfl zRz'.out ?_
     clear hs
     rintro w g10 - hs
     refine ⟨⟨hs.hold (.blk g6 43 ZI) (by simp), HRX.out [_, _, _, _, _, _] _ hs.hold⟩, ?_⟩
     (try simp only [Act.put, List.setIfInBounds_toArray, List.set_cons_zero, List.set_cons_succ])
     change Or.AW _ _ _ _ _ 3 [12, 13, 14] _ _
     refine Or.pure 12 (v := ?_) (by rfl) (by decide +kernel) (by rfl) (by rfl) (by rfl) (fun wx hS => ?_) ?_; rotate_left; (focus (go_simp; (first | done | with_reducible rfl)))
     (try simp only [Act.put, List.setIfInBounds_toArray, List.set_cons_zero, List.set_cons_succ])
     change Or.AW _ _ _ _ _ 2 [13, 14] _ _
     refine Or.one 13 (by decide +kernel) (by decide +kernel) (by rfl) (by rfl) ?_
     refine Se.sow 0 hs rfl rfl rfl rfl NO.out (by rw [NL.out]; kernel_rfl) (by rw [NL.out, ZL0.out]) ?_
     clear hs
     intro w hs
     simp only [List.cons_append, List.nil_append, List.set_cons_zero, List.set_cons_succ] at hs
     refine ⟨⟨hs.hold (.blk g6 43 ZI) (by simp), HRX.out [_, _, _, _, _, _] _ hs.hold⟩, ?_⟩
     (try simp only [Act.put])
     change Or.AW _ _ _ _ _ 1 [14] _ _
     refine Or.pure 14 (v := ?_) (by rfl) (by decide +kernel) (by rfl) (by rfl) (by rfl) (fun wx hS => ?_) ?_; rotate_left; (focus (go_simp; (first | done | with_reducible rfl)))
     (try simp only [Act.put, List.setIfInBounds_toArray, List.set_cons_zero, List.set_cons_succ])
     change Or.AW _ _ _ _ _ 0 [] _ _
     refine Or.done ?_
     simp only [List.drop_succ_cons, List.drop_zero]
     go_wp2_with fail
     go_meet
     exact ⟨z', g', a', r', c', A', ZN, g10, rfl, rfl, rfl, HZN, hs⟩
    ·skip
     refine Se.al hs rfl zRz'.out ?_
     clear hs
     rintro w g10 - hs
     refine ⟨⟨hs.hold (.blk g6 43 ZI) (by simp), HRX.out [_, _, _, _, _, _] _ hs.hold⟩, ?_⟩
     (try simp only [Act.put, List.setIfInBounds_toArray, List.set_cons_zero, List.set_cons_succ])
     change Or.AW _ _ _ _ _ 8 [6, 7, 8, 9, 10, 12, 13, 14] _ _
     refine Or.one 6 (by decide +kernel) (by decide +kernel) (by rfl) (by rfl) ?_
     refine Se.gcall (f := 22) (args := #[.pointer (some ⟨g, 0, none⟩), .agg ZI.toArray, .agg AC.toArray]) ?_ ?_
     ·go_simp
     refine Calls.mono (CAC.out [_] _ hs) ?_
     clear hs
     rintro e w ⟨z', g', a', r', c', A', ZN, rfl, hnx, hzn, hs⟩
     refine ⟨_, rfl, ⟨hs.hold (.blk g6 43 ZI) (by simp), HRX.out [_, _, _, _, _, _] _ hs.hold⟩, ?_⟩
     (try simp only [Act.put, List.setIfInBounds_toArray, List.set_cons_zero, List.set_cons_succ])
     change Or.AW _ _ _ _ _ 7 [7, 8, 9, 10, 12, 13, 14] _ _
     have NL := Lib.hid hzn.len
     have NO := Lib.hid hzn.one
     have HZN := Lib.hid (And.intro hnx hzn)
     clear hzn hnx CAC
     refine Or.pure 7 (v := ?_) (by rfl) (by decide +kernel) (by rfl) (by rfl) (by rfl) (fun wx hS => ?_) ?_; rotate_left; (focus (go_simp; (first | done | with_reducible rfl)))
     (try simp only [Act.put, List.setIfInBounds_toArray, List.set_cons_zero, List.set_cons_succ])
     change Or.AW _ _ _ _ _ 6 [8, 9, 10, 12, 13, 14] _ _
     refine Or.pure 8 (v := ?_) (by rfl) (by decide +kernel) (by rfl) (by rfl) (by rfl) (fun wx hS => ?_) ?_; rotate_left; (focus (go_simp; (first | done | with_reducible rfl)))
     (try simp only [Act.put, List.setIfInBounds_toArray, List.set_cons_zero, List.set_cons_succ])
     change Or.AW _ _ _ _ _ 5 [9, 10, 12, 13, 14] _ _
     refine Or.pure 9 (v := ?_) (by rfl) (by decide +kernel) (by rfl) (by rfl) (by rfl) (fun wx hS => ?_) ?_; rotate_left; (focus (go_simp; (first | done | with_reducible rfl)))
     (try simp only [Act.put, List.setIfInBounds_toArray, List.set_cons_zero, List.set_cons_succ])
     change Or.AW _ _ _ _ _ 4 [10, 12, 13, 14] _ _
     refine Or.pure 10 (v := ?_) (by rfl) (by decide +kernel) (by rfl) (by rfl) (by rfl) (fun wx hS => ?_) ?_; rotate_left; (focus (go_simp; (first | done | with_reducible rfl)))
     (try simp only [Act.put, List.setIfInBounds_toArray, List.set_cons_zero, List.set_cons_succ])
     change Or.AW _ _ _ _ _ 3 [12, 13, 14] _ _
     refine Or.pure 12 (v := ?_) (by rfl) (by decide +kernel) (by rfl) (by rfl) (by rfl) (fun wx hS => ?_) ?_; rotate_left; (focus (go_simp; (first | done | with_reducible rfl)))
     (try simp only [Act.put, List.setIfInBounds_toArray, List.set_cons_zero, List.set_cons_succ])
     change Or.AW _ _ _ _ _ 2 [13, 14] _ _
     refine Or.one 13 (by decide +kernel) (by decide +kernel) (by rfl) (by rfl) ?_
     refine Se.sow 0 hs rfl rfl rfl rfl NO.out (by rw [NL.out]; kernel_rfl) (by rw [NL.out, ZL0.out]) ?_
     clear hs
     intro w hs
     simp only [List.cons_append, List.nil_append, List.set_cons_zero, List.set_cons_succ] at hs
     refine ⟨⟨hs.hold (.blk g6 43 ZI) (by simp), HRX.out [_, _, _, _, _, _] _ hs.hold⟩, ?_⟩
     (try simp only [Act.put])
     change Or.AW _ _ _ _ _ 1 [14] _ _
     refine Or.pure 14 (v := ?_) (by rfl) (by decide +kernel) (by rfl) (by rfl) (by rfl) (fun wx hS => ?_) ?_; rotate_left; (focus (go_simp; (first | done | with_reducible rfl)))
     (try simp only [Act.put, List.setIfInBounds_toArray, List.set_cons_zero, List.set_cons_succ])
     change Or.AW _ _ _ _ _ 0 [] _ _
     refine Or.done ?_
     simp only [List.drop_succ_cons, List.drop_zero]
     go_wp2_with fail
     go_meet
     exact ⟨z', g', a', r', c', A', ZN, g10, rfl, rfl, rfl, HZN, hs⟩
   case rest =>
   clear hs
   rename World => w
   obtain ⟨z', g', a', r', c', A', ZN, g10, rfl, rfl, rfl, HNZ2, hs⟩ := hcut
   have NL := Lib.hid HNZ2.out.2.len
   have NO := Lib.hid HNZ2.out.2.one
   have HZN := Lib.hid HNZ2.out.2
   have HNX := Lib.hid HNZ2.out.1
   clear HNZ2 CAC
   go_upto_region 8 with (fail)
   refine Ch.region' 4 (fun wx => Blk wx g10 ZN 43) (fun | 3 => true | _ => false) (by kernel_rfl) (by decide +kernel) (hs.drew.hold (.blk g10 43 ZN) (by simp)) ?_
   replace hs := hs.drew
   generalize w.drew = w at hs ⊢
   change Ch.CW _ _ _ _ _ [0, 1, 2, 3] _ _
   iterate 3 ((first | (refine Ch.pure (v := ?_) (by rfl) (by rfl) (by rfl) (fun wx hS => ?_) ?_; rotate_left; (focus (go_simp; (first | done | with_reducible rfl)))) | refine Ch.pure (v := _) (by rfl) (by rfl) (by rfl) (fun wx hS => Se.xla rfl rfl (Li.Rd.of_blk hS) (by rw [NL.out] <;> kernel_rfl) (by kernel_rfl)) ?_); (try simp only [Act.put, List.setIfInBounds_toArray, List.set_cons_zero, List.set_cons_succ]))
   refine Ch.noise (by rfl) (by rfl) (by rfl) (Se.sow 4 hs rfl rfl rfl rfl NO.out (by rw [NL.out]; kernel_rfl) (by rw [NL.out, ZLn.out]) ?_)
   clear hs
   intro w hs
   simp only [List.cons_append, List.nil_append, List.set_cons_zero, List.set_cons_succ] at hs
   refine ⟨hs.hold (.blk g10 43 ZN) (by simp), ?_⟩
   (try simp only [Act.put, List.setIfInBounds_toArray, List.set_cons_zero, List.set_cons_succ])
   refine Ch.done ?_
   try simp only [List.drop_succ_cons, List.drop_zero]
   replace hs := hs.drop
   have CIS : Hid (∀ (w : World), St w0 X (pZ g' z' (some a') c' :: pL r' (some a') c' z' :: .rd A' (ocs z'.l) :: .blk g6 43 ZN :: .blk g2 24 C :: L) w → Calls Try.prog 19 #[.pointer (some ⟨g', 0, none⟩), .agg ZN.toArray] w fun e w' => e = .returned (.bool true) ∧ St w0 X (pZ g' z' (some a') c' :: pL r' (some a') c' z' :: .rd A' (ocs z'.l) :: .blk g6 43 ZN :: .blk g2 24 C :: L) w') := Lib.hid (fun w hs => is_st hs HNX.out.1 HZN.out)
   go_wp2_with (first | ((with_reducible refine Se.isL (o := ⟨some 49, _, _, _, _, _⟩) ?_); (refine Se.toL rfl (Se.ldw (o := ⟨some 49, _, _, _, _, _⟩) hs rfl rfl ((Reads.blk 3 rfl)) ((by rw [NL.out]; kernel_rfl)) (by kernel_rfl) ?_))) | (go_at_call 19; refine Calls.mono (CIS.out _ hs) ?_; clear hs; rintro e w ⟨rfl, hs⟩))
   go_roundg (nl - (j + 1))
   case measure => omega
   case rel => exact ⟨j + 1, z', g', a', r', c', A', ZN, rfl, by omega, by go_num, rfl, Lib.hid ⟨HNX.out.1, by have := HNX.out.2.2; have := HO.out.2; omega⟩, HZN, hs⟩
  ·obtain rfl : j = nl := by omega
   go_wp2_with (first | (go_at_call 8; refine Calls.mono (works_st hs) ?_; clear hs; rintro e w ⟨rfl, hs⟩))
   go_ret
   exact ⟨rfl, hs.drop.drop.drop.drop.drop⟩
theorem plays_any {W : World} {n sz cap mo ma : Int} {A : Option Addr} {nl cl : Nat} {acs : List Ac} (hl : nl = acs.length) (hr : Rd W A (acs.flatMap ac)) (hok : ∀ a ∈ acs, a.n ≤ 9223372036854775807) :
  Calls Try.prog 5 #[.agg #[.int .i64 n, .int .i64 sz, .int .i64 cap, .int .i64 mo, .int .i64 ma], .slice A nl cl] W fun e w' => e = .returned (.bool true) ∧ Below W.heap.size W w' := by
 have hs : St W [] [.rd A (acs.flatMap ac)] W := St.start W (fun a ha => by obtain rfl := List.mem_singleton.1 ha; exact hr) rfl
 by_cases h : 60 < n ∨ okC n sz cap mo ma = false
 ·exact (plays_no hs h).mono fun _ _ ⟨h1, h2⟩ => ⟨h1, h2.below⟩
 ·have hok2 : okC n sz cap mo ma = true := by
   cases hc : okC n sz cap mo ma with
   | true => rfl
   | false => exact absurd (.inr hc) h
  obtain ⟨c, rfl, rfl, rfl, rfl, rfl⟩ := cf_of hok2
  exact (plays_yes hs hok2 (by omega) hl (Reads.rd 0 rfl) hok).mono fun _ _ ⟨h1, h2⟩ => ⟨h1, h2.below⟩
end Zo
end Go.Proofs.Ythpgkkfahiglnaa


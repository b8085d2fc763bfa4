/- Layer 35: the law PduEncodes, the walk. No condition. Printed by wip/gen_pduencl.py. -/
import Derived.Test.YtgpbmohfgjmpkaaPduREnc
import Derived.Test.YtgpbmohfgjmpkaaPduRValid
import Derived.Test.YtgpbmohfgjmpkaaPduApart
set_option linter.unusedSimpArgs false
set_option linter.unusedVariables false
namespace Go.Proofs.Ytgpbmohfgjmpkaa
open Go Go.RowKit
namespace Pd
open Se (St At Reads Cell)
open Li (v8 v8_one Rd Blk Fr)
open Bv (n8 n16 n32 n64)
variable {w0 w : World} {X : List Nat} {L : List At}
attribute [local irreducible] Calls
attribute [local go_sem] Gd.mv_true Gd.pk_or Gd.pk_and Gd.pk_true Gd.pk_false
set_option maxRecDepth 100000 in
set_option maxHeartbeats 4000000 in
theorem encodes_st (hs : St w0 X L w) (p : PDU) (f : Fm) {EA DA : Option Addr} {en ec dn dc : Nat} (he : en = p.en.length) (rE : Reads L EA (p.en.map v8)) (hd : dn = p.da.length) (rD : Reads L DA (p.da.map v8)) :
    Calls Try.prog 3 #[.agg (pc p.h EA en ec DA dn dc).toArray, fv f] w fun e w' => e = .returned (.bool true) ∧ St w0 X L w' := by
  obtain ⟨PL, hP⟩ : ∃ PL, PL = pc p.h EA en ec DA dn dc := ⟨_, rfl⟩
  obtain ⟨F, hF⟩ : ∃ F, F = fl f := ⟨_, rfl⟩
  obtain ⟨b1, hb1⟩ : ∃ b, (decide (3000 < dn) || decide (100 < en)) = b := ⟨_, rfl⟩
  have PLL := Lib.hid (show PL.length = 14 by rw [hP]; rfl)
  have FL := Lib.hid (show F.length = 3 by rw [hF]; rfl)
  have C1 : Hid (∀ (L' : List At) (w : World), St w0 X (L' ++ L) w → Calls Try.prog 10 #[.agg PL.toArray] w fun e w' => e = .returned (.bool b1) ∧ St w0 X (L' ++ L) w') := Lib.hid (fun L' w hs => by rw [hP]; exact long_st hs p.h hb1)
  have CK : Hid (∀ (L' : List At) (w : World), St w0 X (L' ++ L) w → Calls Try.prog 11 #[] w fun e w' => e = .returned (.bool true) ∧ St w0 X (L' ++ L) w') := Lib.hid (fun L' w hs => known_st hs)
  cases b1 with
  | true =>
    rw [← hP, fv_eq, ← hF]
    clear hP hF hb1 he hd rE rD
    go_enter Try.func3, Try.ntmps3
    go_wp2_with (first | ((with_reducible refine Se.isL (o := ⟨some 10, _, _, _, _, _⟩) ?_); (refine Se.toL rfl (Se.ldw (o := ⟨some 10, _, _, _, _, _⟩) hs rfl rfl ((Reads.blk 1 rfl)) ((by rw [PLL.out]; kernel_rfl)) (by kernel_rfl) ?_))) | ((first | with_reducible refine Se.ab hs ?_ | with_reducible refine Se.abc hs ?_); clear hs; (first | ((fail_if_success (have _q := g2)); generalize w.heap.size = g2; intro w hs) | (generalize w.heap.size = g3; intro w hs))) | (go_at_call 10; refine Calls.mono (C1.out [_, _] _ hs) ?_; clear hs; rintro e w ⟨rfl, hs⟩) | (go_at_call 11; refine Calls.mono (CK.out [_, _] _ hs) ?_; clear hs; rintro e w ⟨rfl, hs⟩))
    go_ret
    exact ⟨rfl, hs.drop.drop⟩
  | false =>
    have l1 : dn ≤ 3000 ∧ en ≤ 100 := by simp at hb1; omega
    have le : en ≤ 70368744177664 := by omega
    have ld : dn ≤ 70368744177664 := by omega
    obtain ⟨fr, hfr⟩ : ∃ b, framed f = b := ⟨_, rfl⟩
    obtain ⟨v, hv⟩ : ∃ b, valid p = b := ⟨_, rfl⟩
    obtain ⟨⟨s1, e1⟩, hs1⟩ : ∃ x, encE p f = x := ⟨_, rfl⟩
    obtain ⟨m, hm⟩ : ∃ m, m = s1.length := ⟨_, rfl⟩
    have hss : sizeE p f = (m, e1) := by
      by_cases h : framed f = true ∧ valid p = true
      · rw [encE_ok h.1 h.2] at hs1; cases hs1; rw [sizeE_ok h.1 h.2, hm, enc_len p f h.1 h.2]
      · rw [(encE_no h).2] at hs1; cases hs1; rw [(encE_no h).1, hm]; rfl
    have HX : Hid ((fr && v) = true → s1 = enc p f ∧ e1 = 0) := Lib.hid (by
      rw [← hfr, ← hv]; intro h; rw [Bool.and_eq_true] at h; rw [encE_ok h.1 h.2] at hs1; cases hs1; exact ⟨rfl, rfl⟩)
    have HN : Hid ((fr && v) = false → s1 = [] ∧ e1 = 2) := Lib.hid (by
      rw [← hfr, ← hv]; intro h
      have h' : ¬ (framed f = true ∧ valid p = true) := by rintro ⟨h1, h2⟩; rw [h1, h2] at h; cases h
      rw [(encE_no h').2] at hs1; cases hs1; exact ⟨rfl, rfl⟩)
    have CE : Hid (∀ (L' : List At) (w : World), St w0 X (L' ++ L) w → Calls Try.prog 12 #[.agg PL.toArray, .agg F.toArray] w fun e w' => ∃ r B c, e = .returned (.tuple #[.slice B m c, iv e1]) ∧ St w0 X (.own 1 r B m c (s1.map v8) :: (L' ++ L)) w') := Lib.hid (fun L' w hs => by rw [hF, ← fv_eq, hP]; exact encode_st hs p f (rE.app L') (rD.app L') he hd le ld hs1 hm)
    have CZ : Hid (∀ (L' : List At) (w : World), St w0 X (L' ++ L) w → Calls Try.prog 13 #[.agg PL.toArray, .agg F.toArray] w fun e w' => e = .returned (.tuple #[iv m, iv e1]) ∧ St w0 X (L' ++ L) w') := Lib.hid (fun L' w hs => by rw [hF, ← fv_eq, hP]; exact sizeP_st hs p f (rE.app L') (rD.app L') he hd le ld hss)
    have CV : Hid (∀ (L' : List At) (w : World), St w0 X (L' ++ L) w → Calls Try.prog 14 #[.agg PL.toArray] w fun e w' => e = .returned (.bool v) ∧ St w0 X (L' ++ L) w') := Lib.hid (fun L' w hs => by rw [hP]; exact validP_st hs p (rE.app L') (rD.app L') he hd le ld hv)
    have CRV : Hid (∀ (L' : List At) (w : World), St w0 X (L' ++ L) w → Calls Try.prog 15 #[.agg PL.toArray] w fun e w' => e = .returned (.bool v) ∧ St w0 X (L' ++ L) w') := Lib.hid (fun L' w hs => by rw [hP]; exact rValid_st hs p he hd hv)
    have CF : Hid (∀ (L' : List At) (w : World), St w0 X (L' ++ L) w → Calls Try.prog 16 #[.agg F.toArray] w fun e w' => e = .returned (.bool fr) ∧ St w0 X (L' ++ L) w') := Lib.hid (fun L' w hs => by rw [hF, ← fv_eq, ← hfr]; exact rFramed_st hs f)
    have CRE : Hid (fr = true → v = true → ∀ (L' : List At) (w : World), St w0 X (L' ++ L) w → Calls Try.prog 17 #[.agg PL.toArray, .agg F.toArray] w fun e w' => ∃ r B c, e = .returned (.slice B m c) ∧ St w0 X (.own 1 r B m c (s1.map v8) :: (L' ++ L)) w') := Lib.hid (fun h1 h2 L' w hs => by
      rw [hF, ← fv_eq, hP, (HX.out (by rw [h1, h2]; rfl)).1]
      exact rEncode_st hs p f (rE.app L') (rD.app L') he hd (by rw [hfr]; exact h1) (by rw [hv]; exact h2) (by rw [hm, (HX.out (by rw [h1, h2]; rfl)).1]))
    rw [← hP, fv_eq, ← hF]
    have HM := Lib.hid hm
    clear hP hF hb1 he hd rE rD hfr hv hs1 hss hm
    cases h2 : fr && v with
    | false =>
      obtain ⟨rfl, rfl⟩ := HN.out h2
      obtain rfl : m = 0 := HM.out
      have H2 := Lib.hid h2
      clear h2 HX HN CRE HM
      go_enter Try.func3, Try.ntmps3
      go_upto_region 5 with (first | ((with_reducible refine Se.isL (o := ⟨some 10, _, _, _, _, _⟩) ?_); (refine Se.toL rfl (Se.ldw (o := ⟨some 10, _, _, _, _, _⟩) hs rfl rfl ((Reads.blk 1 rfl)) ((by rw [PLL.out]; kernel_rfl)) (by kernel_rfl) ?_))) | ((with_reducible refine Se.isL (o := ⟨some 14, _, _, _, _, _⟩) ?_); (refine Se.toL rfl (Se.ldw (o := ⟨some 14, _, _, _, _, _⟩) hs rfl rfl ((Reads.blk 1 rfl)) ((by rw [PLL.out]; kernel_rfl)) (by kernel_rfl) ?_))) | ((with_reducible refine Se.isL (o := ⟨some 15, _, _, _, _, _⟩) ?_); (refine Se.toL rfl (Se.ldw (o := ⟨some 15, _, _, _, _, _⟩) hs rfl rfl ((Reads.blk 0 rfl)) ((by rw [FL.out]; kernel_rfl)) (by kernel_rfl) ?_))) | ((with_reducible refine Se.isL (o := ⟨some 20, _, _, _, _, _⟩) ?_); (refine Se.toL rfl (Se.ldw (o := ⟨some 20, _, _, _, _, _⟩) hs rfl rfl ((Reads.blk 2 rfl)) ((by rw [PLL.out]; kernel_rfl)) (by kernel_rfl) ?_))) | ((with_reducible refine Se.isL (o := ⟨some 21, _, _, _, _, _⟩) ?_); (refine Se.toL rfl (Se.ldw (o := ⟨some 21, _, _, _, _, _⟩) hs rfl rfl ((Reads.blk 1 rfl)) ((by rw [FL.out]; kernel_rfl)) (by kernel_rfl) ?_))) | ((first | with_reducible refine Se.ab hs ?_ | with_reducible refine Se.abc hs ?_); clear hs; (first | ((fail_if_success (have _q := g2)); generalize w.heap.size = g2; intro w hs) | (generalize w.heap.size = g3; intro w hs))) | (go_at_call 10; refine Calls.mono (C1.out [_, _] _ hs) ?_; clear hs; rintro e w ⟨rfl, hs⟩) | (go_at_call 12; refine Calls.mono (CE.out [_, _] _ hs) ?_; clear hs; rintro e w ⟨r, A, c, rfl, hs⟩) | (go_at_call 13; refine Calls.mono (CZ.out [_, _, _] _ hs) ?_; clear hs; rintro e w ⟨rfl, hs⟩))
      refine Ch.region' 5 (fun wx => Blk wx g2 PL 27 ∧ Blk wx g3 F 29) (fun | 1 => true | 3 => true | _ => false) (by kernel_rfl) (by decide +kernel) (⟨hs.drew.hold (.blk g2 27 PL) (by simp), hs.drew.hold (.blk g3 29 F) (by simp)⟩) ?_
      replace hs := hs.drew
      generalize w.drew = w at hs ⊢
      change Ch.CW _ _ _ _ _ [0, 1, 2, 3, 4] _ _
      iterate 1 ((first | (refine Ch.pure (v := ?_) (by rfl) (by rfl) (by rfl) (fun wx hS => ?_) ?_; rotate_left; (focus (go_simp; (first | done | with_reducible rfl)))) | refine Ch.pure (v := _) (by rfl) (by rfl) (by rfl) (fun wx hS => Se.xla rfl rfl (Li.Rd.of_blk hS.1) (by rw [PLL.out] <;> kernel_rfl) (by kernel_rfl)) ?_); (try simp only [Act.put, List.setIfInBounds_toArray, List.set_cons_zero, List.set_cons_succ]))
      refine Ch.noise (by rfl) (by rfl) (by rfl) ?_
      refine Se.gcall (f := 14) (args := #[.agg PL.toArray]) ?_ ?_
      · go_simp
      refine Calls.mono (CV.out [_, _, _] _ hs) ?_
      clear hs
      rintro e w ⟨rfl, hs⟩
      refine ⟨_, rfl, ⟨hs.hold (.blk g2 27 PL) (by simp), hs.hold (.blk g3 29 F) (by simp)⟩, ?_⟩
      (try simp only [Act.put, List.setIfInBounds_toArray, List.set_cons_zero, List.set_cons_succ])
      iterate 1 ((first | (refine Ch.pure (v := ?_) (by rfl) (by rfl) (by rfl) (fun wx hS => ?_) ?_; rotate_left; (focus (go_simp; (first | done | with_reducible rfl)))) | refine Ch.pure (v := _) (by rfl) (by rfl) (by rfl) (fun wx hS => Se.xla rfl rfl (Li.Rd.of_blk hS.1) (by rw [PLL.out] <;> kernel_rfl) (by kernel_rfl)) ?_); (try simp only [Act.put, List.setIfInBounds_toArray, List.set_cons_zero, List.set_cons_succ]))
      refine Ch.noise (by rfl) (by rfl) (by rfl) ?_
      refine Se.gcall (f := 15) (args := #[.agg PL.toArray]) ?_ ?_
      · go_simp
      refine Calls.mono (CRV.out [_, _, _] _ hs) ?_
      clear hs
      rintro e w ⟨rfl, hs⟩
      refine ⟨_, rfl, ⟨hs.hold (.blk g2 27 PL) (by simp), hs.hold (.blk g3 29 F) (by simp)⟩, ?_⟩
      (try simp only [Act.put, List.setIfInBounds_toArray, List.set_cons_zero, List.set_cons_succ])
      iterate 1 ((first | (refine Ch.pure (v := ?_) (by rfl) (by rfl) (by rfl) (fun wx hS => ?_) ?_; rotate_left; (focus (go_simp; (first | done | with_reducible rfl))))); (try simp only [Act.put, List.setIfInBounds_toArray, List.set_cons_zero, List.set_cons_succ]))
      refine Ch.done ?_
      try simp only [List.drop_succ_cons, List.drop_zero]
      go_upto_region 7 with (fail)
      refine Gd.plain 8 (fun wx => Blk wx g2 PL 27 ∧ Blk wx g3 F 29) (fun | 1 => true | 5 => true | _ => false) rfl (⟨hs.hold (.blk g2 27 PL) (by simp), hs.hold (.blk g3 29 F) (by simp)⟩) ?_
      change Ch.CW _ _ _ _ _ [0, 1, 2, 3, 4, 5, 6, 7] _ _
      iterate 1 (refine Gd.look (by rfl) ?_; (first | ((with_reducible refine Gd.isLoad0 ?_); first | (refine Gd.qp (v := .agg F.toArray) (by rfl) (by rfl) (fun wx hS => Se.xla (by rfl) (by rfl) (Li.Rd.of_blk hS.2) (by rw [FL.out] <;> kernel_rfl) (by kernel_rfl)) ?_)) | ((with_reducible refine Gd.isLoad1 ?_); first | (refine Gd.gp (v := .agg F.toArray) (by rfl) (by first | exact Gd.want_t rfl rfl rfl | exact Gd.want_f rfl rfl rfl | exact Gd.want_mt rfl rfl rfl | exact Gd.want_mf rfl rfl rfl) (fun hb0 wx hS => Se.xla (by rfl) (by rfl) (Li.Rd.of_blk hS.2) (by rw [FL.out] <;> kernel_rfl) (by kernel_rfl)) ?_)) | ((with_reducible refine Gd.isPick0 ?_); refine Gd.qpick (b := _) (v := ?_) (e := ?_) (by rfl) (by rfl) (by rfl) (by rfl) ?_ ?_ ?_; rotate_left 2; (focus (go_simp; (first | done | with_reducible rfl))); (focus (with_reducible rfl)); (intro _ _)) | ((with_reducible refine Gd.isPick1 ?_); refine Gd.gpick (b := ?_) (v := ?_) (e := ?_) (by rfl) (by rfl) (by first | exact Gd.want_t rfl rfl rfl | exact Gd.want_f rfl rfl rfl | exact Gd.want_mt rfl rfl rfl | exact Gd.want_mf rfl rfl rfl) ?_ ?_ ?_; rotate_left 3; (focus ((intro hb; have hb0 := hb; (try simp only [Bool.and_eq_true] at hb)); refine ⟨?_, ?_⟩ <;> (go_simp; (first | done | with_reducible rfl)))); (focus (with_reducible rfl)); (intro _ _)) | ((with_reducible refine Gd.isBin0 (ty := 4) ?_); refine Gd.qb (v := ?_) (e := ?_) (by rfl) (by rfl) (fun wx hS => ?_) ?_ ?_; rotate_left 2; (focus (go_simp; (first | done | with_reducible rfl))); (focus (with_reducible rfl)); (intro _ _)) | ((with_reducible refine Gd.isUn0 (ty := 4) ?_); refine Gd.qb (v := ?_) (e := ?_) (by rfl) (by rfl) (fun wx hS => ?_) ?_ ?_; rotate_left 2; (focus (go_simp; (first | done | with_reducible rfl))); (focus (with_reducible rfl)); (intro _ _)) | ((with_reducible refine Gd.isBin1 (ty := 4) ?_); refine Gd.gb (v := ?_) (e := ?_) (by rfl) (by first | exact Gd.want_t rfl rfl rfl | exact Gd.want_f rfl rfl rfl | exact Gd.want_mt rfl rfl rfl | exact Gd.want_mf rfl rfl rfl) ?_ ?_ ?_; rotate_left 2; (focus ((intro hb; have hb0 := hb; (try simp only [Bool.and_eq_true] at hb)); intro wx hS; go_simp; (first | done | with_reducible rfl))); (focus (with_reducible rfl)); (intro _ _)) | ((with_reducible refine Gd.isUn1 (ty := 4) ?_); refine Gd.gb (v := ?_) (e := ?_) (by rfl) (by first | exact Gd.want_t rfl rfl rfl | exact Gd.want_f rfl rfl rfl | exact Gd.want_mt rfl rfl rfl | exact Gd.want_mf rfl rfl rfl) ?_ ?_ ?_; rotate_left 2; (focus ((intro hb; have hb0 := hb; (try simp only [Bool.and_eq_true] at hb)); intro wx hS; go_simp; (first | done | with_reducible rfl))); (focus (with_reducible rfl)); (intro _ _)) | ((with_reducible refine Gd.is0 ?_); refine Gd.qp (v := ?_) (by rfl) (by rfl) (fun wx hS => ?_) ?_; rotate_left; (focus (go_simp; (first | done | with_reducible rfl)))) | ((with_reducible refine Gd.is1 ?_); refine Gd.gp (v := ?_) (by rfl) (by first | exact Gd.want_t rfl rfl rfl | exact Gd.want_f rfl rfl rfl | exact Gd.want_mt rfl rfl rfl | exact Gd.want_mf rfl rfl rfl) ?_ ?_; rotate_left; (focus ((intro hb; have hb0 := hb; (try simp only [Bool.and_eq_true] at hb)); intro wx hS; go_simp; (first | done | with_reducible rfl))))); (try simp only [Act.put, List.setIfInBounds_toArray, List.set_cons_zero, List.set_cons_succ]))
      refine Ch.noise (by rfl) (by rfl) (by rfl) ?_
      refine Se.gcall (f := 16) (args := #[.agg F.toArray]) ?_ ?_
      · go_simp
      refine Calls.mono (CF.out [_, _, _] _ hs) ?_
      clear hs
      rintro e w ⟨rfl, hs⟩
      refine ⟨_, rfl, ⟨hs.hold (.blk g2 27 PL) (by simp), hs.hold (.blk g3 29 F) (by simp)⟩, ?_⟩
      (try simp only [Act.put, List.setIfInBounds_toArray, List.set_cons_zero, List.set_cons_succ])
      iterate 3 (refine Gd.look (by rfl) ?_; (first | ((with_reducible refine Gd.isLoad0 ?_); first | (refine Gd.qp (v := .agg PL.toArray) (by rfl) (by rfl) (fun wx hS => Se.xla (by rfl) (by rfl) (Li.Rd.of_blk hS.1) (by rw [PLL.out] <;> kernel_rfl) (by kernel_rfl)) ?_)) | ((with_reducible refine Gd.isLoad1 ?_); first | (refine Gd.gp (v := .agg PL.toArray) (by rfl) (by first | exact Gd.want_t rfl rfl rfl | exact Gd.want_f rfl rfl rfl | exact Gd.want_mt rfl rfl rfl | exact Gd.want_mf rfl rfl rfl) (fun hb0 wx hS => Se.xla (by rfl) (by rfl) (Li.Rd.of_blk hS.1) (by rw [PLL.out] <;> kernel_rfl) (by kernel_rfl)) ?_)) | ((with_reducible refine Gd.isPick0 ?_); refine Gd.qpick (b := _) (v := ?_) (e := ?_) (by rfl) (by rfl) (by rfl) (by rfl) ?_ ?_ ?_; rotate_left 2; (focus (go_simp; (first | done | with_reducible rfl))); (focus (with_reducible rfl)); (intro _ _)) | ((with_reducible refine Gd.isPick1 ?_); refine Gd.gpick (b := ?_) (v := ?_) (e := ?_) (by rfl) (by rfl) (by first | exact Gd.want_t rfl rfl rfl | exact Gd.want_f rfl rfl rfl | exact Gd.want_mt rfl rfl rfl | exact Gd.want_mf rfl rfl rfl) ?_ ?_ ?_; rotate_left 3; (focus ((intro hb; have hb0 := hb; (try simp only [Bool.and_eq_true] at hb)); refine ⟨?_, ?_⟩ <;> (go_simp; (first | done | with_reducible rfl)))); (focus (with_reducible rfl)); (intro _ _)) | ((with_reducible refine Gd.isBin0 (ty := 4) ?_); refine Gd.qb (v := ?_) (e := ?_) (by rfl) (by rfl) (fun wx hS => ?_) ?_ ?_; rotate_left 2; (focus (go_simp; (first | done | with_reducible rfl))); (focus (with_reducible rfl)); (intro _ _)) | ((with_reducible refine Gd.isUn0 (ty := 4) ?_); refine Gd.qb (v := ?_) (e := ?_) (by rfl) (by rfl) (fun wx hS => ?_) ?_ ?_; rotate_left 2; (focus (go_simp; (first | done | with_reducible rfl))); (focus (with_reducible rfl)); (intro _ _)) | ((with_reducible refine Gd.isBin1 (ty := 4) ?_); refine Gd.gb (v := ?_) (e := ?_) (by rfl) (by first | exact Gd.want_t rfl rfl rfl | exact Gd.want_f rfl rfl rfl | exact Gd.want_mt rfl rfl rfl | exact Gd.want_mf rfl rfl rfl) ?_ ?_ ?_; rotate_left 2; (focus ((intro hb; have hb0 := hb; (try simp only [Bool.and_eq_true] at hb)); intro wx hS; go_simp; (first | done | with_reducible rfl))); (focus (with_reducible rfl)); (intro _ _)) | ((with_reducible refine Gd.isUn1 (ty := 4) ?_); refine Gd.gb (v := ?_) (e := ?_) (by rfl) (by first | exact Gd.want_t rfl rfl rfl | exact Gd.want_f rfl rfl rfl | exact Gd.want_mt rfl rfl rfl | exact Gd.want_mf rfl rfl rfl) ?_ ?_ ?_; rotate_left 2; (focus ((intro hb; have hb0 := hb; (try simp only [Bool.and_eq_true] at hb)); intro wx hS; go_simp; (first | done | with_reducible rfl))); (focus (with_reducible rfl)); (intro _ _)) | ((with_reducible refine Gd.is0 ?_); refine Gd.qp (v := ?_) (by rfl) (by rfl) (fun wx hS => ?_) ?_; rotate_left; (focus (go_simp; (first | done | with_reducible rfl)))) | ((with_reducible refine Gd.is1 ?_); refine Gd.gp (v := ?_) (by rfl) (by first | exact Gd.want_t rfl rfl rfl | exact Gd.want_f rfl rfl rfl | exact Gd.want_mt rfl rfl rfl | exact Gd.want_mf rfl rfl rfl) ?_ ?_; rotate_left; (focus ((intro hb; have hb0 := hb; (try simp only [Bool.and_eq_true] at hb)); intro wx hS; go_simp; (first | done | with_reducible rfl))))); (try simp only [Act.put, List.setIfInBounds_toArray, List.set_cons_zero, List.set_cons_succ]))
      refine Gd.gn (v := .bool v) (by rfl) (by rfl) (by first | exact Gd.want_t rfl rfl rfl | exact Gd.want_f rfl rfl rfl | exact Gd.want_mt rfl rfl rfl | exact Gd.want_mf rfl rfl rfl) hs (fun hb => ?_) (fun w hT => ?_)
      · (try simp only [Bool.and_eq_true] at hb)
        refine Se.gcall (f := 15) (args := #[.agg PL.toArray]) ?_ ?_
        · go_simp
        refine Calls.mono (CRV.out [_, _, _] _ hs) ?_
        clear hs
        rintro e w ⟨rfl, hs⟩
        exact ⟨_, rfl, rfl, hs⟩
      clear hs
      have hs := hT
      clear hT
      refine ⟨⟨hs.hold (.blk g2 27 PL) (by simp), hs.hold (.blk g3 29 F) (by simp)⟩, ?_⟩
      (try simp only [Act.put, List.setIfInBounds_toArray, List.set_cons_zero, List.set_cons_succ])
      iterate 2 (refine Gd.look (by rfl) ?_; (first | ((with_reducible refine Gd.isPick0 ?_); refine Gd.qpick (b := _) (v := ?_) (e := ?_) (by rfl) (by rfl) (by rfl) (by rfl) ?_ ?_ ?_; rotate_left 2; (focus (go_simp; (first | done | with_reducible rfl))); (focus (with_reducible rfl)); (intro _ _)) | ((with_reducible refine Gd.isPick1 ?_); refine Gd.gpick (b := ?_) (v := ?_) (e := ?_) (by rfl) (by rfl) (by first | exact Gd.want_t rfl rfl rfl | exact Gd.want_f rfl rfl rfl | exact Gd.want_mt rfl rfl rfl | exact Gd.want_mf rfl rfl rfl) ?_ ?_ ?_; rotate_left 3; (focus ((intro hb; have hb0 := hb; (try simp only [Bool.and_eq_true] at hb)); refine ⟨?_, ?_⟩ <;> (go_simp; (first | done | with_reducible rfl)))); (focus (with_reducible rfl)); (intro _ _)) | ((with_reducible refine Gd.isBin0 (ty := 4) ?_); refine Gd.qb (v := ?_) (e := ?_) (by rfl) (by rfl) (fun wx hS => ?_) ?_ ?_; rotate_left 2; (focus (go_simp; (first | done | with_reducible rfl))); (focus (with_reducible rfl)); (intro _ _)) | ((with_reducible refine Gd.isUn0 (ty := 4) ?_); refine Gd.qb (v := ?_) (e := ?_) (by rfl) (by rfl) (fun wx hS => ?_) ?_ ?_; rotate_left 2; (focus (go_simp; (first | done | with_reducible rfl))); (focus (with_reducible rfl)); (intro _ _)) | ((with_reducible refine Gd.isBin1 (ty := 4) ?_); refine Gd.gb (v := ?_) (e := ?_) (by rfl) (by first | exact Gd.want_t rfl rfl rfl | exact Gd.want_f rfl rfl rfl | exact Gd.want_mt rfl rfl rfl | exact Gd.want_mf rfl rfl rfl) ?_ ?_ ?_; rotate_left 2; (focus ((intro hb; have hb0 := hb; (try simp only [Bool.and_eq_true] at hb)); intro wx hS; go_simp; (first | done | with_reducible rfl))); (focus (with_reducible rfl)); (intro _ _)) | ((with_reducible refine Gd.isUn1 (ty := 4) ?_); refine Gd.gb (v := ?_) (e := ?_) (by rfl) (by first | exact Gd.want_t rfl rfl rfl | exact Gd.want_f rfl rfl rfl | exact Gd.want_mt rfl rfl rfl | exact Gd.want_mf rfl rfl rfl) ?_ ?_ ?_; rotate_left 2; (focus ((intro hb; have hb0 := hb; (try simp only [Bool.and_eq_true] at hb)); intro wx hS; go_simp; (first | done | with_reducible rfl))); (focus (with_reducible rfl)); (intro _ _)) | ((with_reducible refine Gd.is0 ?_); refine Gd.qp (v := ?_) (by rfl) (by rfl) (fun wx hS => ?_) ?_; rotate_left; (focus (go_simp; (first | done | with_reducible rfl)))) | ((with_reducible refine Gd.is1 ?_); refine Gd.gp (v := ?_) (by rfl) (by first | exact Gd.want_t rfl rfl rfl | exact Gd.want_f rfl rfl rfl | exact Gd.want_mt rfl rfl rfl | exact Gd.want_mf rfl rfl rfl) ?_ ?_; rotate_left; (focus ((intro hb; have hb0 := hb; (try simp only [Bool.and_eq_true] at hb)); intro wx hS; go_simp; (first | done | with_reducible rfl))))); (try simp only [Act.put, List.setIfInBounds_toArray, List.set_cons_zero, List.set_cons_succ]))
      refine Ch.done ?_
      rename_i cc hcc
      obtain rfl : cc = true := by
        have h2 := H2.out
        unfold Hid at *
        subst_vars
        revert h2
        cases fr <;> cases v <;> decide
      go_wp2_with (first | (go_at_call 11; refine Calls.mono (CK.out [_, _, _] _ hs) ?_; clear hs; rintro e w ⟨rfl, hs⟩))
      go_ret
      exact ⟨rfl, hs.drop.drop.drop⟩
    | true =>
      obtain ⟨rfl, rfl⟩ : fr = true ∧ v = true := by simpa using h2
      obtain ⟨-, rfl⟩ := HX.out rfl
      have CR2 := Lib.hid (CRE.out rfl rfl)
      have hml : m = s1.length := HM.out
      clear h2 HX HN CRE
      go_enter Try.func3, Try.ntmps3
      go_upto_region 5 with (first | ((with_reducible refine Se.isL (o := ⟨some 10, _, _, _, _, _⟩) ?_); (refine Se.toL rfl (Se.ldw (o := ⟨some 10, _, _, _, _, _⟩) hs rfl rfl ((Reads.blk 1 rfl)) ((by rw [PLL.out]; kernel_rfl)) (by kernel_rfl) ?_))) | ((with_reducible refine Se.isL (o := ⟨some 14, _, _, _, _, _⟩) ?_); (refine Se.toL rfl (Se.ldw (o := ⟨some 14, _, _, _, _, _⟩) hs rfl rfl ((Reads.blk 1 rfl)) ((by rw [PLL.out]; kernel_rfl)) (by kernel_rfl) ?_))) | ((with_reducible refine Se.isL (o := ⟨some 15, _, _, _, _, _⟩) ?_); (refine Se.toL rfl (Se.ldw (o := ⟨some 15, _, _, _, _, _⟩) hs rfl rfl ((Reads.blk 0 rfl)) ((by rw [FL.out]; kernel_rfl)) (by kernel_rfl) ?_))) | ((with_reducible refine Se.isL (o := ⟨some 20, _, _, _, _, _⟩) ?_); (refine Se.toL rfl (Se.ldw (o := ⟨some 20, _, _, _, _, _⟩) hs rfl rfl ((Reads.blk 2 rfl)) ((by rw [PLL.out]; kernel_rfl)) (by kernel_rfl) ?_))) | ((with_reducible refine Se.isL (o := ⟨some 21, _, _, _, _, _⟩) ?_); (refine Se.toL rfl (Se.ldw (o := ⟨some 21, _, _, _, _, _⟩) hs rfl rfl ((Reads.blk 1 rfl)) ((by rw [FL.out]; kernel_rfl)) (by kernel_rfl) ?_))) | ((first | with_reducible refine Se.ab hs ?_ | with_reducible refine Se.abc hs ?_); clear hs; (first | ((fail_if_success (have _q := g2)); generalize w.heap.size = g2; intro w hs) | (generalize w.heap.size = g3; intro w hs))) | (go_at_call 10; refine Calls.mono (C1.out [_, _] _ hs) ?_; clear hs; rintro e w ⟨rfl, hs⟩) | (go_at_call 12; refine Calls.mono (CE.out [_, _] _ hs) ?_; clear hs; rintro e w ⟨r, A, c, rfl, hs⟩) | (go_at_call 13; refine Calls.mono (CZ.out [_, _, _] _ hs) ?_; clear hs; rintro e w ⟨rfl, hs⟩))
      refine Ch.region' 5 (fun wx => Blk wx g2 PL 27 ∧ Blk wx g3 F 29) (fun | 1 => true | 3 => true | _ => false) (by kernel_rfl) (by decide +kernel) (⟨hs.drew.hold (.blk g2 27 PL) (by simp), hs.drew.hold (.blk g3 29 F) (by simp)⟩) ?_
      replace hs := hs.drew
      generalize w.drew = w at hs ⊢
      change Ch.CW _ _ _ _ _ [0, 1, 2, 3, 4] _ _
      iterate 1 ((first | (refine Ch.pure (v := ?_) (by rfl) (by rfl) (by rfl) (fun wx hS => ?_) ?_; rotate_left; (focus (go_simp; (first | done | with_reducible rfl)))) | refine Ch.pure (v := _) (by rfl) (by rfl) (by rfl) (fun wx hS => Se.xla rfl rfl (Li.Rd.of_blk hS.1) (by rw [PLL.out] <;> kernel_rfl) (by kernel_rfl)) ?_); (try simp only [Act.put, List.setIfInBounds_toArray, List.set_cons_zero, List.set_cons_succ]))
      refine Ch.noise (by rfl) (by rfl) (by rfl) ?_
      refine Se.gcall (f := 14) (args := #[.agg PL.toArray]) ?_ ?_
      · go_simp
      refine Calls.mono (CV.out [_, _, _] _ hs) ?_
      clear hs
      rintro e w ⟨rfl, hs⟩
      refine ⟨_, rfl, ⟨hs.hold (.blk g2 27 PL) (by simp), hs.hold (.blk g3 29 F) (by simp)⟩, ?_⟩
      (try simp only [Act.put, List.setIfInBounds_toArray, List.set_cons_zero, List.set_cons_succ])
      iterate 1 ((first | (refine Ch.pure (v := ?_) (by rfl) (by rfl) (by rfl) (fun wx hS => ?_) ?_; rotate_left; (focus (go_simp; (first | done | with_reducible rfl)))) | refine Ch.pure (v := _) (by rfl) (by rfl) (by rfl) (fun wx hS => Se.xla rfl rfl (Li.Rd.of_blk hS.1) (by rw [PLL.out] <;> kernel_rfl) (by kernel_rfl)) ?_); (try simp only [Act.put, List.setIfInBounds_toArray, List.set_cons_zero, List.set_cons_succ]))
      refine Ch.noise (by rfl) (by rfl) (by rfl) ?_
      refine Se.gcall (f := 15) (args := #[.agg PL.toArray]) ?_ ?_
      · go_simp
      refine Calls.mono (CRV.out [_, _, _] _ hs) ?_
      clear hs
      rintro e w ⟨rfl, hs⟩
      refine ⟨_, rfl, ⟨hs.hold (.blk g2 27 PL) (by simp), hs.hold (.blk g3 29 F) (by simp)⟩, ?_⟩
      (try simp only [Act.put, List.setIfInBounds_toArray, List.set_cons_zero, List.set_cons_succ])
      iterate 1 ((first | (refine Ch.pure (v := ?_) (by rfl) (by rfl) (by rfl) (fun wx hS => ?_) ?_; rotate_left; (focus (go_simp; (first | done | with_reducible rfl))))); (try simp only [Act.put, List.setIfInBounds_toArray, List.set_cons_zero, List.set_cons_succ]))
      refine Ch.done ?_
      try simp only [List.drop_succ_cons, List.drop_zero]
      go_upto_region 10 with (first | ((with_reducible refine Se.isL (o := ⟨some 30, _, _, _, _, _⟩) ?_); (refine Se.toL rfl (Se.ldw (o := ⟨some 30, _, _, _, _, _⟩) hs rfl rfl ((Reads.blk 1 rfl)) ((by rw [FL.out]; kernel_rfl)) (by kernel_rfl) ?_))) | ((with_reducible refine Se.isL (o := ⟨some 34, _, _, _, _, _⟩) ?_); (refine Se.toL rfl (Se.ldw (o := ⟨some 34, _, _, _, _, _⟩) hs rfl rfl ((Reads.blk 2 rfl)) ((by rw [PLL.out]; kernel_rfl)) (by kernel_rfl) ?_))) | ((with_reducible refine Se.isL (o := ⟨some 56, _, _, _, _, _⟩) ?_); (refine Se.toL rfl (Se.ldw (o := ⟨some 56, _, _, _, _, _⟩) hs rfl rfl ((Reads.blk 2 rfl)) ((by rw [PLL.out]; kernel_rfl)) (by kernel_rfl) ?_))) | ((with_reducible refine Se.isL (o := ⟨some 57, _, _, _, _, _⟩) ?_); (refine Se.toL rfl (Se.ldw (o := ⟨some 57, _, _, _, _, _⟩) hs rfl rfl ((Reads.blk 1 rfl)) ((by rw [FL.out]; kernel_rfl)) (by kernel_rfl) ?_))) | (go_at_call 16; refine Calls.mono (CF.out [_, _, _] _ hs) ?_; clear hs; rintro e w ⟨rfl, hs⟩) | (go_at_call 15; refine Calls.mono (CRV.out [_, _, _] _ hs) ?_; clear hs; rintro e w ⟨rfl, hs⟩) | (go_at_call 17; refine Calls.mono (CR2.out [_, _, _] _ hs) ?_; clear hs; rintro e w ⟨r2, A2, c2, rfl, hs⟩))
      refine Gd.plain 23 (fun wx => Rd wx A (s1.map v8) ∧ Rd wx A2 (s1.map v8)) (fun | 20 => true | _ => false) rfl (⟨(Reads.own 1 rfl) w hs.hold, (Reads.own 0 rfl) w hs.hold⟩) ?_
      change Ch.CW _ _ _ _ _ [0, 1, 2, 3, 4, 5, 6, 7, 8, 9, 10, 11, 12, 13, 14, 15, 16, 17, 18, 19, 20, 21, 22] _ _
      iterate 4 ((first | (refine Ch.pure (v := ?_) (by rfl) (by rfl) (by rfl) (fun wx hS => ?_) ?_; rotate_left; (focus (go_simp; (first | done | with_reducible rfl))))); (try simp only [Act.put, List.setIfInBounds_toArray, List.set_cons_zero, List.set_cons_succ]))
      refine Ch.pure (v := .string (strB s1)) (by rfl) (by rfl) (by rfl) (fun wx hS => xconv rfl rfl hS.1 rfl Try.underlying23 Try.underlying5 Try.underlying9) ?_
      (try simp only [Act.put, List.setIfInBounds_toArray, List.set_cons_zero, List.set_cons_succ])
      iterate 1 ((first | (refine Ch.pure (v := ?_) (by rfl) (by rfl) (by rfl) (fun wx hS => ?_) ?_; rotate_left; (focus (go_simp; (first | done | with_reducible rfl))))); (try simp only [Act.put, List.setIfInBounds_toArray, List.set_cons_zero, List.set_cons_succ]))
      refine Ch.pure (v := .string (strB s1)) (by rfl) (by rfl) (by rfl) (fun wx hS => xconv rfl rfl hS.2 rfl Try.underlying23 Try.underlying5 Try.underlying9) ?_
      (try simp only [Act.put, List.setIfInBounds_toArray, List.set_cons_zero, List.set_cons_succ])
      iterate 13 ((first | (refine Ch.pure (v := ?_) (by rfl) (by rfl) (by rfl) (fun wx hS => ?_) ?_; rotate_left; (focus (go_simp; (first | done | with_reducible rfl))))); (try simp only [Act.put, List.setIfInBounds_toArray, List.set_cons_zero, List.set_cons_succ]))
      refine Ch.noise (by rfl) (by rfl) (by rfl) ?_
      refine Se.gcall (f := 11) (args := #[]) ?_ ?_
      · go_simp
      refine Calls.mono (CK.out [_, _, _, _] _ hs) ?_
      clear hs
      rintro e w ⟨rfl, hs⟩
      refine ⟨_, rfl, ⟨(Reads.own 1 rfl) w hs.hold, (Reads.own 0 rfl) w hs.hold⟩, ?_⟩
      (try simp only [Act.put, List.setIfInBounds_toArray, List.set_cons_zero, List.set_cons_succ])
      iterate 2 ((first | (refine Ch.pure (v := ?_) (by rfl) (by rfl) (by rfl) (fun wx hS => ?_) ?_; rotate_left; (focus (go_simp; (first | done | with_reducible rfl))))); (try simp only [Act.put, List.setIfInBounds_toArray, List.set_cons_zero, List.set_cons_succ]))
      refine Ch.done ?_
      go_wp2_with fail
      go_ret
      exact ⟨rfl, hs.drop.drop.drop.drop⟩
theorem encodes_any (p : PDU) (f : Fm) {EA DA : Option Addr} {en ec dn dc : Nat} (w0 : World) (he : en = p.en.length) (hE : Rd w0 EA (p.en.map v8)) (hd : dn = p.da.length) (hD : Rd w0 DA (p.da.map v8)) :
    Calls Try.prog 3 #[.agg (pc p.h EA en ec DA dn dc).toArray, fv f] w0 fun e w' => e = .returned (.bool true) ∧ Below w0.heap.size w0 w' := by
  have hs : St w0 [] [.rd EA (p.en.map v8), .rd DA (p.da.map v8)] w0 := St.start w0 (by
    intro a ha
    simp only [List.mem_cons, List.not_mem_nil, or_false] at ha
    rcases ha with rfl | rfl
    · exact hE
    · exact hD) (by simp [Se.ownedL, Se.At.owned])
  exact (encodes_st hs p f he (Reads.rd 0 rfl) hd (Reads.rd 1 rfl)).mono fun e w' h => ⟨h.1, h.2.below⟩
end Pd
end Go.Proofs.Ytgpbmohfgjmpkaa

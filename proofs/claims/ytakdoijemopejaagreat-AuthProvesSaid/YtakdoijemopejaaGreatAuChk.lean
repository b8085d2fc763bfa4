/- Layer 38: a verifier's Check. No condition but Go's own limits. -/
import Derived.Test.YtakdoijemopejaaGreatAuObj
set_option linter.unusedSimpArgs false
set_option linter.unusedVariables false
namespace Go.Proofs.YtakdoijemopejaaGreat
open Go Go.RowKit
namespace Au
open Se (St At Reads Cell)
open Li (v8 v8_one Rd Blk Fr)
open Bv (n8 n16 n32 n64)
variable {w0 w : World} {X : List Nat} {L : List At}
attribute [local irreducible] Calls
theorem n8_bne {x y : BitVec 8} : (n8 x != n8 y) = decide (x ≠ y) := by rw [bne, Bv.n8_beq, Bool.eq_iff_iff]; simp
theorem n16_bne {x y : BitVec 16} : (n16 x != n16 y) = decide (x ≠ y) := by rw [bne, Bv.n16_beq, Bool.eq_iff_iff]; simp
theorem n32_bne {x y : BitVec 32} : (n32 x != n32 y) = decide (x ≠ y) := by rw [bne, Bv.n32_beq, Bool.eq_iff_iff]; simp
theorem hmac_len (k m : Bs) : (Sha.hmacL k m).length = 32 := by simp [Sha.hmacL, Sha.shaL_length]
theorem resp_len (p : Py) (n : Bs) (h : Hd) (r : BitVec 8) : (resp p n h r).length = 32 := hmac_len _ _
theorem prt_len {b : Bs} {np i : Nat} (h : b.length = 8 + 32 * np) (hi : i < np) : (prt b i).length = 32 := by unfold prt; simp; omega
theorem parE_len {b : Bs} {k f : BitVec 8} {np : Nat} (h : parE b k f np = 0) : b.length = 8 + 32 * np := by
 unfold parE at h
 split at h
 ·cases h
 ·split at h
  ·cases h
  ·omega
set_option maxRecDepth 100000 in
set_option maxHeartbeats 4000000 in
theorem check_st {v : Vs} {A B : Option Addr} {c g n cb : Nat} {b : Bs} (hs : St w0 X (.blk g 69 (vcl v A c) :: L) w) (hv : v.ok) (hr : Reads L A (v.p.sec.map v8)) (hb : Reads L B (b.map v8)) (hn : n = b.length) (hle : n ≤ 1000) :
  Calls Tryz.prog 15 #[.pointer (some ⟨g, 0, none⟩), .slice B n cb] w fun e w' => MsgR w0 X L g 69 A c (checkS v b) e w' := by
 obtain ⟨R, hR⟩ : ∃ R, R = checkS v b := ⟨_, rfl⟩
 rw [← hR]
 obtain ⟨VL, hVL⟩ : ∃ VL, VL = vcl v A c := ⟨_, rfl⟩
 obtain ⟨PL, hPL⟩ : ∃ PL, PL = pcl v.p A c := ⟨_, rfl⟩
 obtain ⟨E, hE⟩ : ∃ E, E = parE b 2#8 1#8 2 := ⟨_, rfl⟩
 have VLL := Lib.hid (show VL.length = 41 by rw [hVL]; exact vcl_len hv.n A c)
 have PLL := Lib.hid (show PL.length = 3 by rw [hPL]; rfl)
 have HVL := Lib.hid hVL
 have RP := Lib.hid (show ∀ L, Reads (.blk g 69 VL :: L) (some ⟨g, 0, none⟩) PL by intro L; rw [hVL, hPL]; exact vcl_rd v A c g _ L)
 have CN : Hid (∀ (L' : List At) (w : World), St w0 X L' w → Calls Tryz.prog 28 #[.agg PL.toArray] w fun e w' => e = .returned (.bool false) ∧ St w0 X L' w') := Lib.hid (fun L' w hs => by rw [hPL]; exact none_st hs v.p A c hv.k1)
 have CP : Hid (∀ w, St w0 X (.blk g 69 VL :: L) w → Calls Tryz.prog 34 #[.slice B n cb, .int .u8 2, .int .u8 1, .int .i64 2] w fun e w' => ParR w0 X (.blk g 69 VL :: L) b 2 E e w') := Lib.hid (fun w hs => by rw [hE]; exact parsed_st hs (hb.cons _) hn hle 2#8 1#8 2 1 rfl (by omega))
 rw [← hVL] at hs
 have hR2 : R = if E ≠ 0 then (v, [], E) else if v.o = false then (v, [], 8) else if (hdOf b).q ≠ v.h.q ∨ (hdOf b).s ≠ v.h.s then ({ v with o := false }, [], 3) else if prt b 0 ≠ resp v.p.py v.n (hdOf b) 72#8 then ({ v with o := false }, [], 10) else ({ v with o := false, d := true }, msg { hdOf b with k := 3#8 } [if (hdOf b).f = 1#8 then resp v.p.py (prt b 1) (hdOf b) 67#8 else z32], 0) := by rw [hR, hE]; rfl
 have HE := Lib.hid hE
 have HR := Lib.hid hR2
 have V39 := Lib.hid (show VL[39]? = some (.bool v.o) by rw [hVL]; exact vcl_39 hv.n A c)
 have V5 := Lib.hid (show VL[5]? = some (.int .u16 (n16 v.h.q)) by rw [hVL]; rfl)
 have V6 := Lib.hid (show VL[6]? = some (.int .u32 (n32 v.h.s)) by rw [hVL]; rfl)
 have HPL := Lib.hid hPL
 have hr0 := Lib.hid hr
 clear hVL hPL hE hR hR2 hr hn hb hle
 go_enter Tryz.func15, Tryz.ntmps15
 go_upto_region 3 with (first | ((with_reducible refine Se.isL (o := ⟨some 16, _, _, _, _, _⟩) ?_); (refine Se.toL rfl (Se.ldw (o := ⟨some 16, _, _, _, _, _⟩) hs rfl rfl ((RP.out _)) ((by rw [PLL.out]; kernel_rfl)) (by kernel_rfl) ?_))) | (go_at_call 28; refine Calls.mono (CN.out _ _ hs) ?_; clear hs; rintro e w ⟨rfl, hs⟩))
 go_wp2_with (first | (go_at_call 34; fail))
 refine Calls.mono (CP.out _ hs) ?_
 clear hs CP CN
 rintro e w (⟨hE0, rfl, hs⟩ | ⟨hE0, rB, AB, c2, rfl, hs⟩)
 ·have hne := int_ne hE0
  have HR := Lib.hid (show R = (v, [], E) by rw [HR.out, if_pos hE0])
  clear hE0
  go_wp2_with (first | ((with_reducible refine Se.isL (o := ⟨some 6, _, _, _, _, _⟩) ?_); (refine Se.toL rfl (Se.al (o := ⟨some 6, _, _, _, _, _⟩) hs rfl (headI) ?_); clear hs; rintro w g6 - hs)) | ((with_reducible refine Se.isL (o := ⟨none, _, _, _, _, _⟩) ?_); (refine Se.toL rfl (Se.sow 0 hs rfl rfl rfl rfl ((by simp [Value.oneCell'])) ((by kernel_rfl)) (rfl) ?_); clear hs; intro w hs; try simp only [List.cons_append, List.nil_append, List.set_cons_zero] at hs)))
  go_ret2
  refine ⟨none, none, 0, 0, by rw [HR.out]; rfl, by rw [HR.out]; rfl, ?_⟩
  rw [HR.out]
  simp only
  rw [← HVL.out]
  exact hs.drop.nil_own 1 none
 have HE0 := Lib.hid hE0
 have hl := Lib.hid (parE_len (HE.out.symm.trans hE0))
 have HR := Lib.hid (show R = _ by rw [HR.out, if_neg (by omega)])
 obtain ⟨hd, hhd⟩ : ∃ hd, hd = hdOf b := ⟨_, rfl⟩
 rw [← hhd] at HR ⊢
 obtain ⟨HL, hHL⟩ : ∃ HL, HL = hc hd := ⟨_, rfl⟩
 have HLL := Lib.hid (show HL.length = 4 by rw [hHL]; rfl)
 have HLO := Lib.hid (show ∀ x ∈ HL, x.oneCell' = true by rw [hHL]; simp [hc, Value.oneCell'])
 have H1 := Lib.hid (show HL[1]? = some (.int .u8 (n8 hd.f)) by rw [hHL]; rfl)
 have H2 := Lib.hid (show HL[2]? = some (.int .u16 (n16 hd.q)) by rw [hHL]; rfl)
 have H3 := Lib.hid (show HL[3]? = some (.int .u32 (n32 hd.s)) by rw [hHL]; rfl)
 have HHL := Lib.hid hHL
 rw [← hHL]
 clear hE0 hhd hHL
 go_upto_region 6 with (first | ((with_reducible refine Se.isL (o := ⟨some 6, _, _, _, _, _⟩) ?_); (refine Se.toL rfl (Se.al (o := ⟨some 6, _, _, _, _, _⟩) hs rfl (headI) ?_); clear hs; rintro w g6 - hs)) | ((with_reducible refine Se.isL (o := ⟨none, _, _, _, _, _⟩) ?_); (refine Se.toL rfl (Se.sow 0 hs rfl rfl rfl rfl (HLO.out) ((by rw [HLL.out]; kernel_rfl)) (HLL.out) ?_); clear hs; intro w hs; try simp only [List.cons_append, List.nil_append, List.set_cons_zero] at hs)))
 obtain ⟨o, ho⟩ : ∃ o, o = v.o := ⟨_, rfl⟩
 rw [← ho] at V39 HR
 cases o with
 | false =>
  have HR2 : Hid (R = (v, [], 8)) := Lib.hid (by rw [HR.out]; rfl)
  clear ho HR
  go_wp2_with (first | ((with_reducible refine Se.isL (o := ⟨some 33, _, _, _, _, _⟩) ?_); (refine Se.toL rfl (Se.ld (o := ⟨some 33, _, _, _, _, _⟩) hs rfl rfl (Cell.blk 2 rfl V39.out) (by kernel_rfl) ?_))))
  go_ret2
  refine ⟨none, none, 0, 0, by rw [HR2.out]; rfl, by rw [HR2.out]; rfl, ?_⟩
  rw [HR2.out]
  try simp only
  rw [← HVL.out]
  exact hs.drop.drop.nil_own 1 none
 | true =>
 have HR := Lib.hid (show R = _ by rw [HR.out, if_neg (by simp)])
 clear ho
 obtain ⟨V1, hV1⟩ : ∃ V1, V1 = vcl { v with o := false } A c := ⟨_, rfl⟩
 have E1 := Lib.hid (show VL.set 39 (.bool false) = V1 by rw [HVL.out, hV1]; exact vcl_setO hv.n A c false)
 have L1 := Lib.hid (show V1.length = 41 by rw [hV1]; exact vcl_len (v := { v with o := false }) hv.n A c)
 have W5 := Lib.hid (show V1[5]? = some (.int .u16 (n16 v.h.q)) by rw [hV1]; rfl)
 have W6 := Lib.hid (show V1[6]? = some (.int .u32 (n32 v.h.s)) by rw [hV1]; rfl)
 have HV1 := Lib.hid hV1
 obtain ⟨NV, hNV⟩ : ∃ NV, NV = v.n.map v8 := ⟨_, rfl⟩
 have NL := Lib.hid (show NV.length = 32 by rw [hNV]; simpa using hv.n)
 have RP1 := Lib.hid (show ∀ L, Reads (.blk g 69 V1 :: L) (some ⟨g, 0, none⟩) PL by intro L; rw [hV1, HPL.out]; exact vcl_rd { v with o := false } A c g _ L)
 have RN1 := Lib.hid (show ∀ L, Reads (.blk g 69 V1 :: L) (some ⟨g, 7, none⟩) NV by intro L; rw [hV1, hNV]; exact vcl_rn (v := { v with o := false }) hv.n A c g _ L)
 have HNV := Lib.hid hNV
 clear hV1 hNV RP V5 V6
 go_upto_region 9 with (first | ((with_reducible refine Se.isL (o := ⟨some 33, _, _, _, _, _⟩) ?_); (refine Se.toL rfl (Se.ld (o := ⟨some 33, _, _, _, _, _⟩) hs rfl rfl (Cell.blk 2 rfl V39.out) (by kernel_rfl) ?_))) | ((with_reducible refine Se.isL (o := ⟨none, _, _, _, _, _⟩) ?_); ((first | refine Se.toL rfl (Se.soq 2 (v := .int _ _) hs rfl rfl rfl rfl rfl (by kernel_rfl) ((by rw [VLL.out]; omega)) (E1.out) ?_) | refine Se.toL rfl (Se.soq 2 (v := .bool _) hs rfl rfl rfl rfl rfl (by kernel_rfl) ((by rw [VLL.out]; omega)) (E1.out) ?_) | refine Se.toL rfl (Se.soq 2 (v := .slice _ _ _) hs rfl rfl rfl rfl rfl (by kernel_rfl) ((by rw [VLL.out]; omega)) (E1.out) ?_) | refine Se.toL rfl (Se.soq 2 (v := .pointer _) hs rfl rfl rfl rfl rfl (by kernel_rfl) ((by rw [VLL.out]; omega)) (E1.out) ?_) | refine Se.toL rfl (Se.soq 2 (v := .string _) hs rfl rfl rfl rfl rfl (by kernel_rfl) ((by rw [VLL.out]; omega)) (E1.out) ?_) | refine Se.toL rfl (Se.soq 2 (v := .map _) hs rfl rfl rfl rfl rfl (by kernel_rfl) ((by rw [VLL.out]; omega)) (E1.out) ?_) | refine Se.toL rfl (Se.soq 2 (v := .func _ _ _) hs rfl rfl rfl rfl rfl (by kernel_rfl) ((by rw [VLL.out]; omega)) (E1.out) ?_) | refine Se.toL rfl (Se.soq 2 (v := .nilFunc) hs rfl rfl rfl rfl rfl (by kernel_rfl) ((by rw [VLL.out]; omega)) (E1.out) ?_)); clear hs; intro w hs; try simp only [List.cons_append, List.nil_append, List.set_cons_zero, List.set_cons_succ] at hs)))
 obtain ⟨gB, oB, rfl, rfl⟩ := hs.own_at 1 rfl (by omega)
 simp only [Act.put]
 by_cases hq : hd.q = v.h.q
 ·have dq : (n16 hd.q != n16 v.h.q) = false := by rw [n16_bne]; simpa using hq
  by_cases hsq : hd.s = v.h.s
  ·have ds : (n32 hd.s != n32 v.h.s) = false := by rw [n32_bne]; simpa using hsq
   have HR := Lib.hid (show R = _ by rw [HR.out, if_neg (by simp [hq, hsq])])
   clear hq hsq
   refine Ch.region' 19 (fun wx => Blk wx g6 HL 67 ∧ Blk wx g V1 69) (fun  | _ => false) (by kernel_rfl) (by decide +kernel) (⟨hs.drew.hold (.blk g6 67 HL) (by simp), hs.drew.hold (.blk g 69 V1) (by simp)⟩) ?_
   replace hs := hs.drew
   generalize w.drew = w at hs ⊢
   change Ch.CW _ _ _ _ _ [0, 1, 2, 3, 4, 5, 6, 7, 8, 9, 10, 11, 12, 13, 14, 15, 16, 17, 18] _ _
   iterate 9 ((first | (refine Ch.pure (v := ?_) (by rfl) (by rfl) (by rfl) (fun wx hS => ?_) ?_; rotate_left; (focus (go_simp; (first | done | with_reducible rfl)))) | refine Ch.pure (v := _) (by rfl) (by rfl) (by rfl) (fun wx hS => Se.xl rfl rfl ((hS.1.cell _).trans H2.out) (by decide +kernel)) ?_ | refine Ch.pure (v := _) (by rfl) (by rfl) (by rfl) (fun wx hS => Se.xl rfl rfl ((hS.2.cell _).trans W5.out) (by decide +kernel)) ?_); (try simp only [Act.put, List.setIfInBounds_toArray, List.set_cons_zero, List.set_cons_succ]))
   iterate 8 ((first | (refine Ch.pure (v := ?_) (by rfl) (by rfl) (by rfl) (fun wx hS => ?_) ?_; rotate_left; (focus (go_simp; (first | done | with_reducible rfl)))) | refine Ch.pure (v := _) (by rfl) (by rfl) (by rfl) (fun wx hS => Se.xl rfl rfl ((hS.1.cell _).trans H3.out) (by decide +kernel)) ?_ | refine Ch.pure (v := _) (by rfl) (by rfl) (by rfl) (fun wx hS => Se.xl rfl rfl ((hS.2.cell _).trans W6.out) (by decide +kernel)) ?_); (try simp only [Act.put, List.setIfInBounds_toArray, List.set_cons_zero, List.set_cons_succ]))
   iterate 2 (refine Ch.pure (v := ?_) (by rfl) (by rfl) (by rfl) (fun wx hS => ?_) ?_; rotate_left; (focus (go_simp; (first | done | with_reducible rfl))); (try simp only [Act.put, List.setIfInBounds_toArray, List.set_cons_zero, List.set_cons_succ]))
   refine Ch.done ?_
   try simp only [List.drop_succ_cons, List.drop_zero]
   obtain ⟨P0V, hP0⟩ : ∃ P0V, P0V = (prt b 0).map v8 := ⟨_, rfl⟩
   obtain ⟨R1, hR1⟩ : ∃ R1, R1 = (resp v.p.py v.n hd 72#8).map v8 := ⟨_, rfl⟩
   obtain ⟨D, hD⟩ : ∃ D, D = decide (prt b 0 ≠ resp v.p.py v.n hd 72#8) := ⟨_, rfl⟩
   have P0L := Lib.hid (show P0V.length = 32 by rw [hP0]; simpa using prt_len hl.out (by omega : 0 < 2))
   have hne : ∀ w, (binOp .neq 34 (.agg P0V.toArray) (.agg R1.toArray)).run Tryz.prog w = .ok (.bool D) w := by
    intro w; rw [hP0, hR1, hD]; exact neB w (prt_len hl.out (by omega : 0 < 2)) (resp_len _ _ _ _)
   have RB0 := Lib.hid (show ∀ L', Reads (.own 32 (some gB) (some ⟨gB, oB, none⟩) 2 c2 ((b.drop 8).map v8) :: L') (some ⟨gB, oB, none⟩) P0V by
    intro L'
    have h := (Reads.own (L := .own 32 (some gB) (some ⟨gB, oB, none⟩) 2 c2 ((b.drop 8).map v8) :: L') 0 rfl).take 32
    rw [← List.map_take] at h
    rw [hP0]; exact h)
   have CR : Hid (∀ w, St w0 X (.blk g6 67 HL :: .own 32 (some gB) (some ⟨gB, oB, none⟩) 2 c2 ((b.drop 8).map v8) :: .blk g 69 V1 :: L) w → Calls Tryz.prog 35 #[.agg PL.toArray, .agg NV.toArray, .agg HL.toArray, .int .u8 72] w fun e w' => e = .returned (.agg R1.toArray) ∧ St w0 X (.blk g6 67 HL :: .own 32 (some gB) (some ⟨gB, oB, none⟩) 2 c2 ((b.drop 8).map v8) :: .blk g 69 V1 :: L) w') := Lib.hid (fun w hs => by
    rw [HPL.out, HNV.out, HHL.out, hR1]
    rw [HHL.out] at hs
    exact resp_st hs v.p A c v.n hd 72#8 (hr0.out.mono (by intro _ h; simp only [List.mem_cons, h, or_true])) hv.k hv.n hv.a hv.b)
   have SP := Lib.hid (show ∀ w, (∀ a ∈ .blk g6 67 HL :: .own 32 (some gB) (some ⟨gB, oB, none⟩) 2 c2 ((b.drop 8).map v8) :: .blk g 69 V1 :: L, a.holds w) → Blk w g6 HL 67 ∧ Rd w (some ⟨gB, oB, none⟩) P0V ∧ Rd w (some ⟨g, 0, none⟩) PL ∧ Rd w (some ⟨g, 7, none⟩) NV by
    intro w h
    exact ⟨h (.blk g6 67 HL) (by simp), (RB0.out _).cons _ w h, ((RP1.out _).cons _).cons _ w h, ((RN1.out _).cons _).cons _ w h⟩)
   have HD := Lib.hid hD
   clear hP0 hR1 hD
   go_upto_region 11 with (fail)
   refine Ch.region' 15 (fun wx => Blk wx g6 HL 67 ∧ Rd wx (some ⟨gB, oB, none⟩) P0V ∧ Rd wx (some ⟨g, 0, none⟩) PL ∧ Rd wx (some ⟨g, 7, none⟩) NV) (fun | 12 => true | _ => false) (by kernel_rfl) (by decide +kernel) (SP.out _ hs.drew.hold) ?_
   replace hs := hs.drew
   generalize w.drew = w at hs ⊢
   change Ch.CW _ _ _ _ _ [0, 1, 2, 3, 4, 5, 6, 7, 8, 9, 10, 11, 12, 13, 14] _ _
   iterate 12 ((first | (refine Ch.pure (v := ?_) (by rfl) (by rfl) (by rfl) (fun wx hS => ?_) ?_; rotate_left; (focus (go_simp; (first | done | with_reducible rfl)))) | refine Ch.pure (v := _) (by rfl) (by rfl) (by rfl) (fun wx hS => Se.xla rfl rfl (Li.Rd.of_blk hS.1) (by rw [HLL.out]; kernel_rfl) (by decide +kernel)) ?_ | refine Ch.pure (v := _) (by rfl) (by rfl) (by rfl) (fun wx hS => Se.xla rfl rfl hS.2.1 (by rw [P0L.out]; kernel_rfl) (by decide +kernel)) ?_ | refine Ch.pure (v := _) (by rfl) (by rfl) (by rfl) (fun wx hS => Se.xla rfl rfl hS.2.2.1 (by rw [PLL.out]; kernel_rfl) (by decide +kernel)) ?_ | refine Ch.pure (v := _) (by rfl) (by rfl) (by rfl) (fun wx hS => Se.xla rfl rfl hS.2.2.2 (by rw [NL.out]; kernel_rfl) (by decide +kernel)) ?_); (try simp only [Act.put, List.setIfInBounds_toArray, List.set_cons_zero, List.set_cons_succ]))
   refine Ch.noise (by rfl) (by rfl) (by rfl) ?_
   refine Se.gcall (f := 35) (args := #[.agg PL.toArray, .agg NV.toArray, .agg HL.toArray, .int .u8 72]) ?_ ?_
   ·go_simp
   refine Calls.mono (CR.out _ hs) ?_
   clear hs
   rintro e w ⟨rfl, hs⟩
   refine ⟨_, rfl, SP.out _ hs.hold, ?_⟩
   (try simp only [Act.put, List.setIfInBounds_toArray, List.set_cons_zero, List.set_cons_succ])
   iterate 2 (refine Ch.pure (v := ?_) (by rfl) (by rfl) (by rfl) (fun wx hS => ?_) ?_; rotate_left; (focus (go_simp; (first | done | with_reducible rfl))); (try simp only [Act.put, List.setIfInBounds_toArray, List.set_cons_zero, List.set_cons_succ]))
   refine Ch.done ?_
   try simp only [List.drop_succ_cons, List.drop_zero]
   cases D with
   | true =>
    have HR2 : Hid (R = ({ v with o := false }, [], 10)) := Lib.hid (by rw [HR.out, if_pos (of_decide_eq_true HD.out.symm)])
    clear HR
    go_wp2_with fail
    go_ret2
    refine ⟨none, none, 0, 0, by rw [HR2.out]; rfl, by rw [HR2.out]; rfl, ?_⟩
    rw [HR2.out]
    try simp only
    rw [← HV1.out]
    exact hs.drop.drop.nil_own 1 none
   | false =>
    have HR2 : Hid (R = _) := Lib.hid (by rw [HR.out, if_neg (of_decide_eq_false HD.out.symm)])
    clear HR hne CR SP HD
    have HR := HR2
    clear HR2
    obtain ⟨V2, hV2⟩ : ∃ V2, V2 = vcl { v with o := false, d := true } A c := ⟨_, rfl⟩
    have E2 := Lib.hid (show V1.set 40 (.bool true) = V2 by rw [HV1.out, hV2]; exact vcl_setD (v := { v with o := false }) hv.n A c true)
    have RP2 := Lib.hid (show ∀ L, Reads (.blk g 69 V2 :: L) (some ⟨g, 0, none⟩) PL by intro L; rw [hV2, HPL.out]; exact vcl_rd { v with o := false, d := true } A c g _ L)
    have HV2 := Lib.hid hV2
    obtain ⟨Z, hZ⟩ : ∃ Z, Z = z32.map v8 := ⟨_, rfl⟩
    have aJ := Lib.hid a32J
    rw [← hZ] at aJ
    have ZL := Lib.hid (show Z.length = 32 by rw [hZ]; rfl)
    have HZ := Lib.hid hZ
    clear hV2 hZ
    go_upto_region 15 with (first | ((with_reducible refine Se.isL (o := ⟨none, _, _, _, _, _⟩) ?_); ((first | refine Se.toL rfl (Se.soq 2 (v := .int _ _) hs rfl rfl rfl rfl rfl (by kernel_rfl) ((by rw [L1.out]; omega)) (E2.out) ?_) | refine Se.toL rfl (Se.soq 2 (v := .bool _) hs rfl rfl rfl rfl rfl (by kernel_rfl) ((by rw [L1.out]; omega)) (E2.out) ?_) | refine Se.toL rfl (Se.soq 2 (v := .slice _ _ _) hs rfl rfl rfl rfl rfl (by kernel_rfl) ((by rw [L1.out]; omega)) (E2.out) ?_) | refine Se.toL rfl (Se.soq 2 (v := .pointer _) hs rfl rfl rfl rfl rfl (by kernel_rfl) ((by rw [L1.out]; omega)) (E2.out) ?_) | refine Se.toL rfl (Se.soq 2 (v := .string _) hs rfl rfl rfl rfl rfl (by kernel_rfl) ((by rw [L1.out]; omega)) (E2.out) ?_) | refine Se.toL rfl (Se.soq 2 (v := .map _) hs rfl rfl rfl rfl rfl (by kernel_rfl) ((by rw [L1.out]; omega)) (E2.out) ?_) | refine Se.toL rfl (Se.soq 2 (v := .func _ _ _) hs rfl rfl rfl rfl rfl (by kernel_rfl) ((by rw [L1.out]; omega)) (E2.out) ?_) | refine Se.toL rfl (Se.soq 2 (v := .nilFunc) hs rfl rfl rfl rfl rfl (by kernel_rfl) ((by rw [L1.out]; omega)) (E2.out) ?_)); clear hs; intro w hs; try simp only [List.cons_append, List.nil_append, List.set_cons_zero, List.set_cons_succ] at hs)) | ((with_reducible refine Se.isL (o := ⟨some 9, _, _, _, _, _⟩) ?_); (refine Se.toL rfl (Se.al (o := ⟨some 9, _, _, _, _, _⟩) hs rfl (aJ.out) ?_); clear hs; rintro w g9 - hs)))
    by_cases hf : hd.f = 1#8
    ·have d1 : (n8 hd.f == 1) = true := by rw [hf]; rfl
     rw [if_pos hf] at HR
     clear hf
     obtain ⟨AV, hAV⟩ : ∃ AV : Bs, AV = resp v.p.py (prt b 1) hd 67#8 := ⟨_, rfl⟩
     have hAL : AV.length = 32 := by rw [hAV]; first | exact resp_len _ _ _ _ | rfl
     rw [← hAV] at HR
     obtain ⟨AW, hAW⟩ : ∃ AW, AW = AV.map v8 := ⟨_, rfl⟩
     have AL := Lib.hid (show AW.length = 32 by rw [hAW]; simpa using hAL)
     have AO := Lib.hid (show ∀ x ∈ AW, x.oneCell' = true by rw [hAW]; exact v8_one _)
     have ML := Lib.hid (show (msg { hd with k := 3#8 } [AV]).length = 40 by rw [msg_len _ [AV] (by simpa using hAL)]; rfl)
     obtain ⟨KL, hKL⟩ : ∃ KL, KL = hc { hd with k := 3#8 } := ⟨_, rfl⟩
     have HK := Lib.hid (show HL.set 0 (.int .u8 3) = KL by rw [HHL.out, hKL]; rfl)
     have HKL := Lib.hid (show KL.length = 4 by rw [hKL]; rfl)
     have CM : Hid (∀ (L' : List At) (g90 : Nat) (t : TypeId) (w : World), St w0 X (.blk g90 t AW :: L') w → Calls Tryz.prog 29 #[.agg KL.toArray, .slice (some ⟨g90, 0, none⟩) 1 1] w fun e w' => ∃ r2 A2 c2, e = .returned (.slice A2 40 c2) ∧ St w0 X (.own 1 r2 A2 40 c2 ((msg { hd with k := 3#8 } [AV]).map v8) :: .blk g90 t AW :: L') w') := Lib.hid (fun L' g90 t w hs => by
      rw [hKL]
      exact msg_st hs { hd with k := 3#8 } [AV] (k := 1) (c := 1) rfl (by omega) (by simpa using hAL) (by rw [show [AV].flatten = AV by simp, ← hAW]; exact Reads.blk 0 rfl))

     obtain ⟨P1V, hP1⟩ : ∃ P1V, P1V = (prt b 1).map v8 := ⟨_, rfl⟩
     have P1L := Lib.hid (show P1V.length = 32 by rw [hP1]; simpa using prt_len hl.out (by omega : 1 < 2))
     have RB1 := Lib.hid (show ∀ L', Reads (.own 32 (some gB) (some ⟨gB, oB, none⟩) 2 c2 ((b.drop 8).map v8) :: L') (some ⟨gB, oB + 32, none⟩) P1V by
      intro L'
      have h := ((Reads.own (L := .own 32 (some gB) (some ⟨gB, oB, none⟩) 2 c2 ((b.drop 8).map v8) :: L') 0 rfl).at 32).take 32
      rw [← List.map_drop, ← List.map_take, List.drop_drop] at h
      rw [hP1]; exact h)
     have CR : Hid (∀ w, St w0 X (.blk g9 34 Z :: .blk g6 67 HL :: .own 32 (some gB) (some ⟨gB, oB, none⟩) 2 c2 ((b.drop 8).map v8) :: .blk g 69 V2 :: L) w → Calls Tryz.prog 35 #[.agg PL.toArray, .agg P1V.toArray, .agg HL.toArray, .int .u8 67] w fun e w' => e = .returned (.agg AW.toArray) ∧ St w0 X (.blk g9 34 Z :: .blk g6 67 HL :: .own 32 (some gB) (some ⟨gB, oB, none⟩) 2 c2 ((b.drop 8).map v8) :: .blk g 69 V2 :: L) w') := Lib.hid (fun w hs => by
      rw [HPL.out, hP1, HHL.out, hAW, hAV]
      rw [HHL.out] at hs
      exact resp_st hs v.p A c (prt b 1) hd 67#8 (hr0.out.mono (by intro _ h; simp only [List.mem_cons, h, or_true])) hv.k (prt_len hl.out (by omega : 1 < 2)) hv.a hv.b)
     have SP := Lib.hid (show ∀ w (Y : List Value), (∀ a ∈ .blk g9 34 Y :: .blk g6 67 HL :: .own 32 (some gB) (some ⟨gB, oB, none⟩) 2 c2 ((b.drop 8).map v8) :: .blk g 69 V2 :: L, a.holds w) → Blk w g6 HL 67 ∧ Rd w (some ⟨gB, oB + 32, none⟩) P1V ∧ Rd w (some ⟨g, 0, none⟩) PL by
      intro w Y h
      exact ⟨h (.blk g6 67 HL) (by simp), ((RB1.out _).cons _).cons _ w h, (((RP2.out _).cons _).cons _).cons _ w h⟩)
     clear hAV hAL hAW hKL hP1
     go_upto_region 16 with (first | ((with_reducible refine Se.isL (o := ⟨some 76, _, _, _, _, _⟩) ?_); (refine Se.toL rfl (Se.ld (o := ⟨some 76, _, _, _, _, _⟩) hs rfl rfl (Cell.blk 1 rfl H1.out) (by kernel_rfl) ?_))))
     refine Ch.region' 10 (fun wx => Blk wx g6 HL 67 ∧ Rd wx (some ⟨gB, oB + 32, none⟩) P1V ∧ Rd wx (some ⟨g, 0, none⟩) PL) (fun | 8 => true | 9 => true | _ => false) (by kernel_rfl) (by decide +kernel) (SP.out _ _ hs.drew.hold) ?_
     replace hs := hs.drew
     generalize w.drew = w at hs ⊢
     change Ch.CW _ _ _ _ _ [0, 1, 2, 3, 4, 5, 6, 7, 8, 9] _ _
     iterate 8 ((first | (refine Ch.pure (v := ?_) (by rfl) (by rfl) (by rfl) (fun wx hS => ?_) ?_; rotate_left; (focus (go_simp; (first | done | with_reducible rfl)))) | refine Ch.pure (v := _) (by rfl) (by rfl) (by rfl) (fun wx hS => Se.xla rfl rfl (Li.Rd.of_blk hS.1) (by rw [HLL.out]; kernel_rfl) (by decide +kernel)) ?_ | refine Ch.pure (v := _) (by rfl) (by rfl) (by rfl) (fun wx hS => Se.xla rfl rfl hS.2.1 (by rw [P1L.out]; kernel_rfl) (by decide +kernel)) ?_ | refine Ch.pure (v := _) (by rfl) (by rfl) (by rfl) (fun wx hS => Se.xla rfl rfl hS.2.2 (by rw [PLL.out]; kernel_rfl) (by decide +kernel)) ?_); (try simp only [Act.put, List.setIfInBounds_toArray, List.set_cons_zero, List.set_cons_succ]))
     refine Ch.noise (by rfl) (by rfl) (by rfl) ?_
     refine Se.gcall (f := 35) (args := #[.agg PL.toArray, .agg P1V.toArray, .agg HL.toArray, .int .u8 67]) ?_ ?_
     ·go_simp
     refine Calls.mono (CR.out _ hs) ?_
     clear hs
     rintro e w ⟨rfl, hs⟩
     refine ⟨_, rfl, SP.out _ _ hs.hold, ?_⟩
     (try simp only [Act.put, List.setIfInBounds_toArray, List.set_cons_zero, List.set_cons_succ])
     refine Ch.noise (by rfl) (by rfl) (by rfl) (Se.sow 0 (vs := AW) hs rfl rfl rfl rfl AO.out (by rw [AL.out]; kernel_rfl) (by rw [AL.out, ZL.out]) ?_)
     clear hs
     intro w hs
     simp only [List.set_cons_zero, List.set_cons_succ] at hs
     refine ⟨SP.out _ _ hs.hold, ?_⟩
     (try simp only [Act.put, List.setIfInBounds_toArray, List.set_cons_zero, List.set_cons_succ])
     refine Ch.done ?_
     try simp only [List.drop_succ_cons, List.drop_zero]
     clear CR SP
     go_upto_region 18 with (first | ((with_reducible refine Se.isL (o := ⟨none, _, _, _, _, _⟩) ?_); ((first | refine Se.toL rfl (Se.soq 1 (v := .int _ _) hs rfl rfl rfl rfl rfl (by kernel_rfl) ((by rw [HLL.out]; omega)) (HK.out) ?_) | refine Se.toL rfl (Se.soq 1 (v := .bool _) hs rfl rfl rfl rfl rfl (by kernel_rfl) ((by rw [HLL.out]; omega)) (HK.out) ?_) | refine Se.toL rfl (Se.soq 1 (v := .slice _ _ _) hs rfl rfl rfl rfl rfl (by kernel_rfl) ((by rw [HLL.out]; omega)) (HK.out) ?_) | refine Se.toL rfl (Se.soq 1 (v := .pointer _) hs rfl rfl rfl rfl rfl (by kernel_rfl) ((by rw [HLL.out]; omega)) (HK.out) ?_) | refine Se.toL rfl (Se.soq 1 (v := .string _) hs rfl rfl rfl rfl rfl (by kernel_rfl) ((by rw [HLL.out]; omega)) (HK.out) ?_) | refine Se.toL rfl (Se.soq 1 (v := .map _) hs rfl rfl rfl rfl rfl (by kernel_rfl) ((by rw [HLL.out]; omega)) (HK.out) ?_) | refine Se.toL rfl (Se.soq 1 (v := .func _ _ _) hs rfl rfl rfl rfl rfl (by kernel_rfl) ((by rw [HLL.out]; omega)) (HK.out) ?_) | refine Se.toL rfl (Se.soq 1 (v := .nilFunc) hs rfl rfl rfl rfl rfl (by kernel_rfl) ((by rw [HLL.out]; omega)) (HK.out) ?_)); clear hs; intro w hs; try simp only [List.cons_append, List.nil_append, List.set_cons_zero, List.set_cons_succ] at hs)))
     go_wp2_with (first | ((with_reducible refine Se.isL (o := ⟨some 88, _, _, _, _, _⟩) ?_); (refine Se.toL rfl (Se.ldw (o := ⟨some 88, _, _, _, _, _⟩) hs rfl rfl ((Reads.blk 1 rfl)) ((by rw [HKL.out]; kernel_rfl)) (by kernel_rfl) ?_))) | ((with_reducible refine Se.isL (o := ⟨some 89, _, _, _, _, _⟩) ?_); (refine Se.toL rfl (Se.ldw (o := ⟨some 89, _, _, _, _, _⟩) hs rfl rfl ((Reads.blk 0 rfl)) ((by rw [AL.out]; kernel_rfl)) (by kernel_rfl) ?_))) | ((with_reducible refine Se.isL (o := ⟨some 90, _, _, _, _, _⟩) ?_); (refine Se.toL rfl (Se.bs1 (o := ⟨some 90, _, _, _, _, _⟩) hs rfl Tryz.underlying77 a32I3 (by decide) (by decide) rfl (AL.out) ?_); clear hs; rintro w g90 - hs)) | (go_at_call 29; refine Calls.mono (CM.out _ _ _ _ hs) ?_; clear hs; rintro e w ⟨r2, A2, c3, rfl, hs⟩))
     go_ret2
     refine ⟨r2, A2, c3, 40, by rw [HR.out]; exact ML.out.symm, by rw [HR.out]; rfl, ?_⟩
     rw [HR.out]
     try simp only
     rw [← HV2.out]
     replace hs := hs.pull 5 rfl
     replace hs := hs.pull 1 rfl
     replace hs := hs.pull 5 rfl
     replace hs := hs.pull 5 rfl
     replace hs := hs.pull 5 rfl
     replace hs := hs.pull 5 rfl
     simp only [List.eraseIdx_cons_succ, List.eraseIdx_cons_zero] at hs
     exact hs.drop.drop.drop.drop
    ·have d1 : (n8 hd.f == 1) = false := by rw [show (1 : Int) = n8 1#8 from rfl, Bv.n8_beq]; simpa using hf
     rw [if_neg hf] at HR
     clear hf
     obtain ⟨AV, hAV⟩ : ∃ AV : Bs, AV = z32 := ⟨_, rfl⟩
     have hAL : AV.length = 32 := by rw [hAV]; first | exact resp_len _ _ _ _ | rfl
     rw [← hAV] at HR
     obtain ⟨AW, hAW⟩ : ∃ AW, AW = AV.map v8 := ⟨_, rfl⟩
     have AL := Lib.hid (show AW.length = 32 by rw [hAW]; simpa using hAL)
     have AO := Lib.hid (show ∀ x ∈ AW, x.oneCell' = true by rw [hAW]; exact v8_one _)
     have ML := Lib.hid (show (msg { hd with k := 3#8 } [AV]).length = 40 by rw [msg_len _ [AV] (by simpa using hAL)]; rfl)
     obtain ⟨KL, hKL⟩ : ∃ KL, KL = hc { hd with k := 3#8 } := ⟨_, rfl⟩
     have HK := Lib.hid (show HL.set 0 (.int .u8 3) = KL by rw [HHL.out, hKL]; rfl)
     have HKL := Lib.hid (show KL.length = 4 by rw [hKL]; rfl)
     have CM : Hid (∀ (L' : List At) (g90 : Nat) (t : TypeId) (w : World), St w0 X (.blk g90 t AW :: L') w → Calls Tryz.prog 29 #[.agg KL.toArray, .slice (some ⟨g90, 0, none⟩) 1 1] w fun e w' => ∃ r2 A2 c2, e = .returned (.slice A2 40 c2) ∧ St w0 X (.own 1 r2 A2 40 c2 ((msg { hd with k := 3#8 } [AV]).map v8) :: .blk g90 t AW :: L') w') := Lib.hid (fun L' g90 t w hs => by
      rw [hKL]
      exact msg_st hs { hd with k := 3#8 } [AV] (k := 1) (c := 1) rfl (by omega) (by simpa using hAL) (by rw [show [AV].flatten = AV by simp, ← hAW]; exact Reads.blk 0 rfl))

     have hZA : Z = AW := by rw [HZ.out, hAW, hAV]
     rw [hZA] at hs
     clear hAV hAL hAW hKL hZA
     go_upto_region 17 with (first | ((with_reducible refine Se.isL (o := ⟨some 76, _, _, _, _, _⟩) ?_); (refine Se.toL rfl (Se.ld (o := ⟨some 76, _, _, _, _, _⟩) hs rfl rfl (Cell.blk 1 rfl H1.out) (by kernel_rfl) ?_))))
     go_upto_region 18 with (first | ((with_reducible refine Se.isL (o := ⟨none, _, _, _, _, _⟩) ?_); ((first | refine Se.toL rfl (Se.soq 1 (v := .int _ _) hs rfl rfl rfl rfl rfl (by kernel_rfl) ((by rw [HLL.out]; omega)) (HK.out) ?_) | refine Se.toL rfl (Se.soq 1 (v := .bool _) hs rfl rfl rfl rfl rfl (by kernel_rfl) ((by rw [HLL.out]; omega)) (HK.out) ?_) | refine Se.toL rfl (Se.soq 1 (v := .slice _ _ _) hs rfl rfl rfl rfl rfl (by kernel_rfl) ((by rw [HLL.out]; omega)) (HK.out) ?_) | refine Se.toL rfl (Se.soq 1 (v := .pointer _) hs rfl rfl rfl rfl rfl (by kernel_rfl) ((by rw [HLL.out]; omega)) (HK.out) ?_) | refine Se.toL rfl (Se.soq 1 (v := .string _) hs rfl rfl rfl rfl rfl (by kernel_rfl) ((by rw [HLL.out]; omega)) (HK.out) ?_) | refine Se.toL rfl (Se.soq 1 (v := .map _) hs rfl rfl rfl rfl rfl (by kernel_rfl) ((by rw [HLL.out]; omega)) (HK.out) ?_) | refine Se.toL rfl (Se.soq 1 (v := .func _ _ _) hs rfl rfl rfl rfl rfl (by kernel_rfl) ((by rw [HLL.out]; omega)) (HK.out) ?_) | refine Se.toL rfl (Se.soq 1 (v := .nilFunc) hs rfl rfl rfl rfl rfl (by kernel_rfl) ((by rw [HLL.out]; omega)) (HK.out) ?_)); clear hs; intro w hs; try simp only [List.cons_append, List.nil_append, List.set_cons_zero, List.set_cons_succ] at hs)))
     go_wp2_with (first | ((with_reducible refine Se.isL (o := ⟨some 88, _, _, _, _, _⟩) ?_); (refine Se.toL rfl (Se.ldw (o := ⟨some 88, _, _, _, _, _⟩) hs rfl rfl ((Reads.blk 1 rfl)) ((by rw [HKL.out]; kernel_rfl)) (by kernel_rfl) ?_))) | ((with_reducible refine Se.isL (o := ⟨some 89, _, _, _, _, _⟩) ?_); (refine Se.toL rfl (Se.ldw (o := ⟨some 89, _, _, _, _, _⟩) hs rfl rfl ((Reads.blk 0 rfl)) ((by rw [AL.out]; kernel_rfl)) (by kernel_rfl) ?_))) | ((with_reducible refine Se.isL (o := ⟨some 90, _, _, _, _, _⟩) ?_); (refine Se.toL rfl (Se.bs1 (o := ⟨some 90, _, _, _, _, _⟩) hs rfl Tryz.underlying77 a32I3 (by decide) (by decide) rfl (AL.out) ?_); clear hs; rintro w g90 - hs)) | (go_at_call 29; refine Calls.mono (CM.out _ _ _ _ hs) ?_; clear hs; rintro e w ⟨r2, A2, c3, rfl, hs⟩))
     go_ret2
     refine ⟨r2, A2, c3, 40, by rw [HR.out]; exact ML.out.symm, by rw [HR.out]; rfl, ?_⟩
     rw [HR.out]
     try simp only
     rw [← HV2.out]
     replace hs := hs.pull 5 rfl
     replace hs := hs.pull 1 rfl
     replace hs := hs.pull 5 rfl
     replace hs := hs.pull 5 rfl
     replace hs := hs.pull 5 rfl
     replace hs := hs.pull 5 rfl
     simp only [List.eraseIdx_cons_succ, List.eraseIdx_cons_zero] at hs
     exact hs.drop.drop.drop.drop
  ·have ds : (n32 hd.s != n32 v.h.s) = true := by rw [n32_bne]; simpa using hsq
   have HR := Lib.hid (show R = _ by rw [HR.out, if_pos (.inr hsq)])
   clear hq hsq
   refine Ch.region' 19 (fun wx => Blk wx g6 HL 67 ∧ Blk wx g V1 69) (fun  | _ => false) (by kernel_rfl) (by decide +kernel) (⟨hs.drew.hold (.blk g6 67 HL) (by simp), hs.drew.hold (.blk g 69 V1) (by simp)⟩) ?_
   replace hs := hs.drew
   generalize w.drew = w at hs ⊢
   change Ch.CW _ _ _ _ _ [0, 1, 2, 3, 4, 5, 6, 7, 8, 9, 10, 11, 12, 13, 14, 15, 16, 17, 18] _ _
   iterate 9 ((first | (refine Ch.pure (v := ?_) (by rfl) (by rfl) (by rfl) (fun wx hS => ?_) ?_; rotate_left; (focus (go_simp; (first | done | with_reducible rfl)))) | refine Ch.pure (v := _) (by rfl) (by rfl) (by rfl) (fun wx hS => Se.xl rfl rfl ((hS.1.cell _).trans H2.out) (by decide +kernel)) ?_ | refine Ch.pure (v := _) (by rfl) (by rfl) (by rfl) (fun wx hS => Se.xl rfl rfl ((hS.2.cell _).trans W5.out) (by decide +kernel)) ?_); (try simp only [Act.put, List.setIfInBounds_toArray, List.set_cons_zero, List.set_cons_succ]))
   iterate 8 ((first | (refine Ch.pure (v := ?_) (by rfl) (by rfl) (by rfl) (fun wx hS => ?_) ?_; rotate_left; (focus (go_simp; (first | done | with_reducible rfl)))) | refine Ch.pure (v := _) (by rfl) (by rfl) (by rfl) (fun wx hS => Se.xl rfl rfl ((hS.1.cell _).trans H3.out) (by decide +kernel)) ?_ | refine Ch.pure (v := _) (by rfl) (by rfl) (by rfl) (fun wx hS => Se.xl rfl rfl ((hS.2.cell _).trans W6.out) (by decide +kernel)) ?_); (try simp only [Act.put, List.setIfInBounds_toArray, List.set_cons_zero, List.set_cons_succ]))
   iterate 2 (refine Ch.pure (v := ?_) (by rfl) (by rfl) (by rfl) (fun wx hS => ?_) ?_; rotate_left; (focus (go_simp; (first | done | with_reducible rfl))); (try simp only [Act.put, List.setIfInBounds_toArray, List.set_cons_zero, List.set_cons_succ]))
   refine Ch.done ?_
   try simp only [List.drop_succ_cons, List.drop_zero]
   go_wp2_with fail
   go_ret2
   refine ⟨none, none, 0, 0, by rw [HR.out]; rfl, by rw [HR.out]; rfl, ?_⟩
   rw [HR.out]
   try simp only
   rw [← HV1.out]
   exact hs.drop.drop.nil_own 1 none
 ·have dq : (n16 hd.q != n16 v.h.q) = true := by rw [n16_bne]; simpa using hq
  have HR := Lib.hid (show R = _ by rw [HR.out, if_pos (.inl hq)])
  clear hq
  refine Ch.region' 19 (fun wx => Blk wx g6 HL 67 ∧ Blk wx g V1 69) (fun  | _ => false) (by kernel_rfl) (by decide +kernel) (⟨hs.drew.hold (.blk g6 67 HL) (by simp), hs.drew.hold (.blk g 69 V1) (by simp)⟩) ?_
  replace hs := hs.drew
  generalize w.drew = w at hs ⊢
  change Ch.CW _ _ _ _ _ [0, 1, 2, 3, 4, 5, 6, 7, 8, 9, 10, 11, 12, 13, 14, 15, 16, 17, 18] _ _
  iterate 9 ((first | (refine Ch.pure (v := ?_) (by rfl) (by rfl) (by rfl) (fun wx hS => ?_) ?_; rotate_left; (focus (go_simp; (first | done | with_reducible rfl)))) | refine Ch.pure (v := _) (by rfl) (by rfl) (by rfl) (fun wx hS => Se.xl rfl rfl ((hS.1.cell _).trans H2.out) (by decide +kernel)) ?_ | refine Ch.pure (v := _) (by rfl) (by rfl) (by rfl) (fun wx hS => Se.xl rfl rfl ((hS.2.cell _).trans W5.out) (by decide +kernel)) ?_); (try simp only [Act.put, List.setIfInBounds_toArray, List.set_cons_zero, List.set_cons_succ]))
  iterate 8 (refine Ch.skip (by rfl) (by rfl) ?_; (try simp only [Act.put, List.setIfInBounds_toArray, List.set_cons_zero, List.set_cons_succ]))
  iterate 2 (refine Ch.pure (v := ?_) (by rfl) (by rfl) (by rfl) (fun wx hS => ?_) ?_; rotate_left; (focus (go_simp; (first | done | with_reducible rfl))); (try simp only [Act.put, List.setIfInBounds_toArray, List.set_cons_zero, List.set_cons_succ]))
  refine Ch.done ?_
  try simp only [List.drop_succ_cons, List.drop_zero]
  go_wp2_with fail
  go_ret2
  refine ⟨none, none, 0, 0, by rw [HR.out]; rfl, by rw [HR.out]; rfl, ?_⟩
  rw [HR.out]
  try simp only
  rw [← HV1.out]
  exact hs.drop.drop.nil_own 1 none
end Au
end Go.Proofs.YtakdoijemopejaaGreat

/- Layer 38: a prover's Finish. No condition but Go's own limits. -/
import Derived.Test.YtakdoijemopejaaGreatAuChk
set_option linter.unusedSimpArgs false
set_option linter.unusedVariables false
namespace Go.Proofs.YtakdoijemopejaaGreat
open Go Go.RowKit
namespace Au
open Se (St At Reads Cell)
open Li (v8 v8_one Rd Blk Fr)
open Bv (n8 n16 n32 n64)
variable {w0 w : World} {X : List Nat} {L : List At}
attribute [local irreducible] Calls
set_option maxRecDepth 100000 in
set_option maxHeartbeats 4000000 in
theorem fin_st {v : Vs} {A B : Option Addr} {c g n cb : Nat} {b : Bs} (hs : St w0 X (.blk g 83 (vcl v A c) :: L) w) (hv : v.ok) (hr : Reads L A (v.p.sec.map v8)) (hb : Reads L B (b.map v8)) (hn : n = b.length) (hle : n ≤ 1000) :
  Calls Tryz.prog 21 #[.pointer (some ⟨g, 0, none⟩), .slice B n cb] w fun e w' => e = .returned (.int .i64 (finS v b).2) ∧ St w0 X (.blk g 83 (vcl (finS v b).1 A c) :: L) w' := by
 obtain ⟨R, hR⟩ : ∃ R, R = finS v b := ⟨_, rfl⟩
 rw [← hR]
 obtain ⟨VL, hVL⟩ : ∃ VL, VL = vcl v A c := ⟨_, rfl⟩
 obtain ⟨PL, hPL⟩ : ∃ PL, PL = pcl v.p A c := ⟨_, rfl⟩
 obtain ⟨E, hE⟩ : ∃ E, E = parE b 3#8 1#8 1 := ⟨_, rfl⟩
 have VLL := Lib.hid (show VL.length = 41 by rw [hVL]; exact vcl_len hv.n A c)
 have PLL := Lib.hid (show PL.length = 3 by rw [hPL]; rfl)
 have HVL := Lib.hid hVL
 have RP := Lib.hid (show ∀ L, Reads (.blk g 83 VL :: L) (some ⟨g, 0, none⟩) PL by intro L; rw [hVL, hPL]; exact vcl_rd v A c g _ L)
 have CN : Hid (∀ (L' : List At) (w : World), St w0 X L' w → Calls Tryz.prog 28 #[.agg PL.toArray] w fun e w' => e = .returned (.bool false) ∧ St w0 X L' w') := Lib.hid (fun L' w hs => by rw [hPL]; exact none_st hs v.p A c hv.k1)
 have CP : Hid (∀ w, St w0 X (.blk g 83 VL :: L) w → Calls Tryz.prog 34 #[.slice B n cb, .int .u8 3, .int .u8 1, .int .i64 1] w fun e w' => ParR w0 X (.blk g 83 VL :: L) b 1 E e w') := Lib.hid (fun w hs => by rw [hE]; exact parsed_st hs (hb.cons _) hn hle 3#8 1#8 1 0 rfl (by omega))
 rw [← hVL] at hs
 have hR2 : R = if E ≠ 0 then (v, E) else if v.o = false then (v, 8) else if { hdOf b with k := 2#8 } ≠ v.h then ({ v with o := false }, 3) else if (hdOf b).f = 1#8 ∧ prt b 0 ≠ resp v.p.py v.n { hdOf b with k := 2#8 } 67#8 then ({ v with o := false }, 10) else ({ v with o := false, d := true }, 0) := by rw [hR, hE]; rfl
 have HE := Lib.hid hE
 have HR := Lib.hid hR2
 have V39 := Lib.hid (show VL[39]? = some (.bool v.o) by rw [hVL]; exact vcl_39 hv.n A c)
 have HPL := Lib.hid hPL
 have hr0 := Lib.hid hr
 clear hVL hPL hE hR hR2 hr hn hb hle
 go_enter Tryz.func21, Tryz.ntmps21
 go_upto_region 3 with (first | ((with_reducible refine Se.isL (o := ⟨some 14, _, _, _, _, _⟩) ?_); (refine Se.toL rfl (Se.ldw (o := ⟨some 14, _, _, _, _, _⟩) hs rfl rfl ((RP.out _)) ((by rw [PLL.out]; kernel_rfl)) (by kernel_rfl) ?_))) | (go_at_call 28; refine Calls.mono (CN.out _ _ hs) ?_; clear hs; rintro e w ⟨rfl, hs⟩))
 go_wp2_with (first | (go_at_call 34; fail))
 refine Calls.mono (CP.out _ hs) ?_
 clear hs CP CN
 rintro e w (⟨hE0, rfl, hs⟩ | ⟨hE0, rB, AB, c2, rfl, hs⟩)
 ·have hne := int_ne hE0
  have HR2 : Hid (R = (v, E)) := Lib.hid (by rw [HR.out, if_pos hE0])
  clear hE0 HR
  go_wp2_with (first | ((with_reducible refine Se.isL (o := ⟨some 5, _, _, _, _, _⟩) ?_); (refine Se.toL rfl (Se.al (o := ⟨some 5, _, _, _, _, _⟩) hs rfl (headI) ?_); clear hs; rintro w g5 - hs)) | ((with_reducible refine Se.isL (o := ⟨none, _, _, _, _, _⟩) ?_); (refine Se.toL rfl (Se.sow 0 hs rfl rfl rfl rfl ((by simp [Value.oneCell'])) ((by kernel_rfl)) (rfl) ?_); clear hs; intro w hs; try simp only [List.cons_append, List.nil_append, List.set_cons_zero] at hs)))
  go_ret
  rw [HR2.out]
  refine ⟨rfl, ?_⟩
  rw [← HVL.out]
  exact hs.drop
 have hl := Lib.hid (parE_len (HE.out.symm.trans hE0))
 have HR2 : Hid (R = _) := Lib.hid (by rw [HR.out, if_neg (by omega)])
 clear HR
 have HR := HR2
 clear HR2 HE
 obtain ⟨hd, hhd⟩ : ∃ hd, hd = hdOf b := ⟨_, rfl⟩
 rw [← hhd] at HR ⊢
 obtain ⟨HL, hHL⟩ : ∃ HL, HL = hc hd := ⟨_, rfl⟩
 have HLL := Lib.hid (show HL.length = 4 by rw [hHL]; rfl)
 have HLO := Lib.hid (show ∀ x ∈ HL, x.oneCell' = true by rw [hHL]; simp [hc, Value.oneCell'])
 obtain ⟨hk, hhk⟩ : ∃ hk : Hd, hk = { hd with k := 2#8 } := ⟨_, rfl⟩
 have hkf : hd.f = hk.f := by rw [hhk]
 rw [← hhk, hkf] at HR
 obtain ⟨KL, hKL⟩ : ∃ KL, KL = hc hk := ⟨_, rfl⟩
 have EK := Lib.hid (show HL.set 0 (.int .u8 2) = KL by rw [hHL, hKL, hhk]; rfl)
 have KLL := Lib.hid (show KL.length = 4 by rw [hKL]; rfl)
 have K1 := Lib.hid (show KL[1]? = some (.int .u8 (n8 hk.f)) by rw [hKL]; rfl)
 rw [← hHL]
 have HKL := Lib.hid hKL
 obtain ⟨gB, oB, rfl, rfl⟩ := hs.own_at 0 rfl (by omega)
 clear hE0 hhd hHL hhk hkf hKL
 go_upto_region 6 with (first | ((with_reducible refine Se.isL (o := ⟨some 5, _, _, _, _, _⟩) ?_); (refine Se.toL rfl (Se.al (o := ⟨some 5, _, _, _, _, _⟩) hs rfl (headI) ?_); clear hs; rintro w g5 - hs)) | ((with_reducible refine Se.isL (o := ⟨none, _, _, _, _, _⟩) ?_); (refine Se.toL rfl (Se.sow 0 hs rfl rfl rfl rfl (HLO.out) ((by rw [HLL.out]; kernel_rfl)) (HLL.out) ?_); clear hs; intro w hs; try simp only [List.cons_append, List.nil_append, List.set_cons_zero] at hs)))
 obtain ⟨o, ho⟩ : ∃ o, o = v.o := ⟨_, rfl⟩
 rw [← ho] at V39 HR
 cases o with
 | false =>
  have HR2 : Hid (R = (v, 8)) := Lib.hid (by rw [HR.out]; rfl)
  clear ho HR
  go_wp2_with (first | ((with_reducible refine Se.isL (o := ⟨some 31, _, _, _, _, _⟩) ?_); (refine Se.toL rfl (Se.ld (o := ⟨some 31, _, _, _, _, _⟩) hs rfl rfl (Cell.blk 2 rfl V39.out) (by kernel_rfl) ?_))))
  go_ret
  rw [HR2.out]
  refine ⟨rfl, ?_⟩
  rw [← HVL.out]
  exact hs.drop.drop
 | true =>
 have HR2 : Hid (R = _) := Lib.hid (by rw [HR.out, if_neg (by simp)])
 clear ho HR
 have HR := HR2
 clear HR2
 obtain ⟨V1, hV1⟩ : ∃ V1, V1 = vcl { v with o := false } A c := ⟨_, rfl⟩
 have E1 := Lib.hid (show VL.set 39 (.bool false) = V1 by rw [HVL.out, hV1]; exact vcl_setO hv.n A c false)
 have L1 := Lib.hid (show V1.length = 41 by rw [hV1]; exact vcl_len (v := { v with o := false }) hv.n A c)
 have HV1 := Lib.hid hV1
 obtain ⟨NV, hNV⟩ : ∃ NV, NV = v.n.map v8 := ⟨_, rfl⟩
 have NL := Lib.hid (show NV.length = 32 by rw [hNV]; simpa using hv.n)
 obtain ⟨SH, hSH⟩ : ∃ SH, SH = hc v.h := ⟨_, rfl⟩
 have SHL := Lib.hid (show SH.length = 4 by rw [hSH]; rfl)
 have RP1 := Lib.hid (show ∀ L, Reads (.blk g 83 V1 :: L) (some ⟨g, 0, none⟩) PL by intro L; rw [hV1, HPL.out]; exact vcl_rd { v with o := false } A c g _ L)
 have RH1 := Lib.hid (show ∀ L, Reads (.blk g 83 V1 :: L) (some ⟨g, 3, none⟩) SH by intro L; rw [hV1, hSH]; exact vcl_rh { v with o := false } A c g _ L)
 have RN1 := Lib.hid (show ∀ L, Reads (.blk g 83 V1 :: L) (some ⟨g, 7, none⟩) NV by intro L; rw [hV1, hNV]; exact vcl_rn (v := { v with o := false }) hv.n A c g _ L)
 have HNV := Lib.hid hNV
 obtain ⟨D, hD⟩ : ∃ D, D = decide (hk ≠ v.h) := ⟨_, rfl⟩
 have hnH : ∀ w, (binOp .neq 67 (.agg KL.toArray) (.agg SH.toArray)).run Tryz.prog w = .ok (.bool D) w := by intro w; rw [HKL.out, hSH, hD]; exact neH w hk v.h
 have HD := Lib.hid hD
 clear hV1 hNV RP hSH hD
 go_upto_region 10 with (first | ((with_reducible refine Se.isL (o := ⟨some 31, _, _, _, _, _⟩) ?_); (refine Se.toL rfl (Se.ld (o := ⟨some 31, _, _, _, _, _⟩) hs rfl rfl (Cell.blk 2 rfl V39.out) (by kernel_rfl) ?_))) | ((with_reducible refine Se.isL (o := ⟨none, Op.store 4 _ _, _, _, _, _⟩) ?_); ((first | refine Se.toL rfl (Se.soq 2 (v := .int _ _) hs rfl rfl rfl rfl rfl (by kernel_rfl) ((by rw [VLL.out]; omega)) (E1.out) ?_) | refine Se.toL rfl (Se.soq 2 (v := .bool _) hs rfl rfl rfl rfl rfl (by kernel_rfl) ((by rw [VLL.out]; omega)) (E1.out) ?_) | refine Se.toL rfl (Se.soq 2 (v := .slice _ _ _) hs rfl rfl rfl rfl rfl (by kernel_rfl) ((by rw [VLL.out]; omega)) (E1.out) ?_) | refine Se.toL rfl (Se.soq 2 (v := .pointer _) hs rfl rfl rfl rfl rfl (by kernel_rfl) ((by rw [VLL.out]; omega)) (E1.out) ?_) | refine Se.toL rfl (Se.soq 2 (v := .string _) hs rfl rfl rfl rfl rfl (by kernel_rfl) ((by rw [VLL.out]; omega)) (E1.out) ?_) | refine Se.toL rfl (Se.soq 2 (v := .map _) hs rfl rfl rfl rfl rfl (by kernel_rfl) ((by rw [VLL.out]; omega)) (E1.out) ?_) | refine Se.toL rfl (Se.soq 2 (v := .func _ _ _) hs rfl rfl rfl rfl rfl (by kernel_rfl) ((by rw [VLL.out]; omega)) (E1.out) ?_) | refine Se.toL rfl (Se.soq 2 (v := .nilFunc) hs rfl rfl rfl rfl rfl (by kernel_rfl) ((by rw [VLL.out]; omega)) (E1.out) ?_)); clear hs; intro w hs; try simp only [List.cons_append, List.nil_append, List.set_cons_zero, List.set_cons_succ] at hs)) | ((with_reducible refine Se.isL (o := ⟨none, Op.store 5 _ _, _, _, _, _⟩) ?_); ((first | refine Se.toL rfl (Se.soq 0 (v := .int _ _) hs rfl rfl rfl rfl rfl (by kernel_rfl) ((by rw [HLL.out]; omega)) (EK.out) ?_) | refine Se.toL rfl (Se.soq 0 (v := .bool _) hs rfl rfl rfl rfl rfl (by kernel_rfl) ((by rw [HLL.out]; omega)) (EK.out) ?_) | refine Se.toL rfl (Se.soq 0 (v := .slice _ _ _) hs rfl rfl rfl rfl rfl (by kernel_rfl) ((by rw [HLL.out]; omega)) (EK.out) ?_) | refine Se.toL rfl (Se.soq 0 (v := .pointer _) hs rfl rfl rfl rfl rfl (by kernel_rfl) ((by rw [HLL.out]; omega)) (EK.out) ?_) | refine Se.toL rfl (Se.soq 0 (v := .string _) hs rfl rfl rfl rfl rfl (by kernel_rfl) ((by rw [HLL.out]; omega)) (EK.out) ?_) | refine Se.toL rfl (Se.soq 0 (v := .map _) hs rfl rfl rfl rfl rfl (by kernel_rfl) ((by rw [HLL.out]; omega)) (EK.out) ?_) | refine Se.toL rfl (Se.soq 0 (v := .func _ _ _) hs rfl rfl rfl rfl rfl (by kernel_rfl) ((by rw [HLL.out]; omega)) (EK.out) ?_) | refine Se.toL rfl (Se.soq 0 (v := .nilFunc) hs rfl rfl rfl rfl rfl (by kernel_rfl) ((by rw [HLL.out]; omega)) (EK.out) ?_)); clear hs; intro w hs; try simp only [List.cons_append, List.nil_append, List.set_cons_zero] at hs)))
 refine Ch.region' 7 (fun wx => Blk wx g5 KL 67 ∧ Rd wx (some ⟨g, 3, none⟩) SH) (fun  | _ => false) (by kernel_rfl) (by decide +kernel) (⟨hs.drew.hold (.blk g5 67 KL) (by simp), ((RH1.out _).cons _).cons _ _ hs.drew.hold⟩) ?_
 replace hs := hs.drew
 generalize w.drew = w at hs ⊢
 change Ch.CW _ _ _ _ _ [0, 1, 2, 3, 4, 5, 6] _ _
 iterate 5 ((first | (refine Ch.pure (v := ?_) (by rfl) (by rfl) (by rfl) (fun wx hS => ?_) ?_; rotate_left; (focus (go_simp; (first | done | with_reducible rfl)))) | refine Ch.pure (v := _) (by rfl) (by rfl) (by rfl) (fun wx hS => Se.xla rfl rfl (Li.Rd.of_blk hS.1) (by rw [KLL.out]; kernel_rfl) (by decide +kernel)) ?_ | refine Ch.pure (v := _) (by rfl) (by rfl) (by rfl) (fun wx hS => Se.xla rfl rfl hS.2 (by rw [SHL.out]; kernel_rfl) (by decide +kernel)) ?_); (try simp only [Act.put, List.setIfInBounds_toArray, List.set_cons_zero, List.set_cons_succ]))
 iterate 2 (refine Ch.pure (v := ?_) (by rfl) (by rfl) (by rfl) (fun wx hS => ?_) ?_; rotate_left; (focus (go_simp; (first | done | with_reducible rfl))); (try simp only [Act.put, List.setIfInBounds_toArray, List.set_cons_zero, List.set_cons_succ]))
 refine Ch.done ?_
 try simp only [List.drop_succ_cons, List.drop_zero]
 cases D with
 | true =>
  have HR2 : Hid (R = ({ v with o := false }, 3)) := Lib.hid (by rw [HR.out, if_pos (of_decide_eq_true HD.out.symm)])
  clear HR
  go_wp2_with fail
  go_ret
  rw [HR2.out]
  refine ⟨rfl, ?_⟩
  rw [← HV1.out]
  exact hs.drop.drop
 | false =>
 have HR2 : Hid (R = _) := Lib.hid (by rw [HR.out, if_neg (of_decide_eq_false HD.out.symm)])
 clear HR HD hnH
 have HR := HR2
 clear HR2
 obtain ⟨V2, hV2⟩ : ∃ V2, V2 = vcl { v with o := false, d := true } A c := ⟨_, rfl⟩
 have E2 := Lib.hid (show V1.set 40 (.bool true) = V2 by rw [HV1.out, hV2]; exact vcl_setD (v := { v with o := false }) hv.n A c true)
 have HV2 := Lib.hid hV2
 clear hV2
 by_cases hf : hk.f = 1#8
 ·have d1 : (n8 hk.f == 1) = true := by rw [hf]; rfl
  obtain ⟨P0V, hP0⟩ : ∃ P0V, P0V = (prt b 0).map v8 := ⟨_, rfl⟩
  obtain ⟨R1, hR1⟩ : ∃ R1, R1 = (resp v.p.py v.n hk 67#8).map v8 := ⟨_, rfl⟩
  obtain ⟨D, hD⟩ : ∃ D, D = decide (prt b 0 ≠ resp v.p.py v.n hk 67#8) := ⟨_, rfl⟩
  have P0L := Lib.hid (show P0V.length = 32 by rw [hP0]; simpa using prt_len hl.out (by omega : 0 < 1))
  have hne : ∀ w, (binOp .neq 34 (.agg P0V.toArray) (.agg R1.toArray)).run Tryz.prog w = .ok (.bool D) w := by
   intro w; rw [hP0, hR1, hD]; exact neB w (prt_len hl.out (by omega : 0 < 1)) (resp_len _ _ _ _)
  have RB0 := Lib.hid (show ∀ L', Reads (.own 32 (some gB) (some ⟨gB, oB, none⟩) 1 c2 ((b.drop 8).map v8) :: L') (some ⟨gB, oB, none⟩) P0V by
   intro L'
   have h := (Reads.own (L := .own 32 (some gB) (some ⟨gB, oB, none⟩) 1 c2 ((b.drop 8).map v8) :: L') 0 rfl).take 32
   rw [← List.map_take] at h
   rw [hP0]; exact h)
  have CR : Hid (∀ w, St w0 X (.blk g5 67 KL :: .own 32 (some gB) (some ⟨gB, oB, none⟩) 1 c2 ((b.drop 8).map v8) :: .blk g 83 V1 :: L) w → Calls Tryz.prog 35 #[.agg PL.toArray, .agg NV.toArray, .agg KL.toArray, .int .u8 67] w fun e w' => e = .returned (.agg R1.toArray) ∧ St w0 X (.blk g5 67 KL :: .own 32 (some gB) (some ⟨gB, oB, none⟩) 1 c2 ((b.drop 8).map v8) :: .blk g 83 V1 :: L) w') := Lib.hid (fun w hs => by
   rw [HPL.out, HNV.out, HKL.out, hR1]
   rw [HKL.out] at hs
   exact resp_st hs v.p A c v.n hk 67#8 (hr0.out.mono (by intro _ h; simp only [List.mem_cons, h, or_true])) hv.k hv.n hv.a hv.b)
  have SP := Lib.hid (show ∀ w, (∀ a ∈ .blk g5 67 KL :: .own 32 (some gB) (some ⟨gB, oB, none⟩) 1 c2 ((b.drop 8).map v8) :: .blk g 83 V1 :: L, a.holds w) → Blk w g5 KL 67 ∧ Rd w (some ⟨gB, oB, none⟩) P0V ∧ Rd w (some ⟨g, 0, none⟩) PL ∧ Rd w (some ⟨g, 7, none⟩) NV by
   intro w h
   exact ⟨h (.blk g5 67 KL) (by simp), (RB0.out _).cons _ w h, ((RP1.out _).cons _).cons _ w h, ((RN1.out _).cons _).cons _ w h⟩)
  have HF : Hid (hk.f = 1#8) := Lib.hid hf
  have HD := Lib.hid hD
  clear hP0 hR1 hD hf
  go_upto_region 12 with (fail)
  refine Ch.region' 20 (fun wx => Blk wx g5 KL 67 ∧ Rd wx (some ⟨gB, oB, none⟩) P0V ∧ Rd wx (some ⟨g, 0, none⟩) PL ∧ Rd wx (some ⟨g, 7, none⟩) NV) (fun | 16 => true | _ => false) (by kernel_rfl) (by decide +kernel) (SP.out _ hs.drew.hold) ?_
  replace hs := hs.drew
  generalize w.drew = w at hs ⊢
  change Ch.CW _ _ _ _ _ [0, 1, 2, 3, 4, 5, 6, 7, 8, 9, 10, 11, 12, 13, 14, 15, 16, 17, 18, 19] _ _
  iterate 16 ((first | (refine Ch.pure (v := ?_) (by rfl) (by rfl) (by rfl) (fun wx hS => ?_) ?_; rotate_left; (focus (go_simp; (first | done | with_reducible rfl)))) | refine Ch.pure (v := _) (by rfl) (by rfl) (by rfl) (fun wx hS => Se.xl rfl rfl ((hS.1.cell _).trans K1.out) (by decide +kernel)) ?_ | refine Ch.pure (v := _) (by rfl) (by rfl) (by rfl) (fun wx hS => Se.xla rfl rfl (Li.Rd.of_blk hS.1) (by rw [KLL.out]; kernel_rfl) (by decide +kernel)) ?_ | refine Ch.pure (v := _) (by rfl) (by rfl) (by rfl) (fun wx hS => Se.xla rfl rfl hS.2.1 (by rw [P0L.out]; kernel_rfl) (by decide +kernel)) ?_ | refine Ch.pure (v := _) (by rfl) (by rfl) (by rfl) (fun wx hS => Se.xla rfl rfl hS.2.2.1 (by rw [PLL.out]; kernel_rfl) (by decide +kernel)) ?_ | refine Ch.pure (v := _) (by rfl) (by rfl) (by rfl) (fun wx hS => Se.xla rfl rfl hS.2.2.2 (by rw [NL.out]; kernel_rfl) (by decide +kernel)) ?_); (try simp only [Act.put, List.setIfInBounds_toArray, List.set_cons_zero, List.set_cons_succ]))
  refine Ch.noise (by rfl) (by rfl) (by rfl) ?_
  refine Se.gcall (f := 35) (args := #[.agg PL.toArray, .agg NV.toArray, .agg KL.toArray, .int .u8 67]) ?_ ?_
  ·go_simp
  refine Calls.mono (CR.out _ hs) ?_
  clear hs
  rintro e w ⟨rfl, hs⟩
  refine ⟨_, rfl, SP.out _ hs.hold, ?_⟩
  (try simp only [Act.put, List.setIfInBounds_toArray, List.set_cons_zero, List.set_cons_succ])
  iterate 3 (refine Ch.pure (v := ?_) (by rfl) (by rfl) (by rfl) (fun wx hS => ?_) ?_; rotate_left; (focus (go_simp; (first | done | with_reducible rfl))); (try simp only [Act.put, List.setIfInBounds_toArray, List.set_cons_zero, List.set_cons_succ]))
  refine Ch.done ?_
  try simp only [List.drop_succ_cons, List.drop_zero]
  cases D with
  | true =>
   have HR2 : Hid (R = ({ v with o := false }, 10)) := Lib.hid (by rw [HR.out, if_pos ⟨HF.out, of_decide_eq_true HD.out.symm⟩])
   clear HR
   go_wp2_with fail
   go_ret
   rw [HR2.out]
   refine ⟨rfl, ?_⟩
   rw [← HV1.out]
   exact hs.drop.drop
  | false =>
   have HR2 : Hid (R = ({ v with o := false, d := true }, 0)) := Lib.hid (by rw [HR.out, if_neg (fun h => of_decide_eq_false HD.out.symm h.2)])
   clear HR hne
   go_wp2_with (first | ((with_reducible refine Se.isL (o := ⟨none, Op.store 4 _ _, _, _, _, _⟩) ?_); ((first | refine Se.toL rfl (Se.soq 2 (v := .int _ _) hs rfl rfl rfl rfl rfl (by kernel_rfl) ((by rw [L1.out]; omega)) (E2.out) ?_) | refine Se.toL rfl (Se.soq 2 (v := .bool _) hs rfl rfl rfl rfl rfl (by kernel_rfl) ((by rw [L1.out]; omega)) (E2.out) ?_) | refine Se.toL rfl (Se.soq 2 (v := .slice _ _ _) hs rfl rfl rfl rfl rfl (by kernel_rfl) ((by rw [L1.out]; omega)) (E2.out) ?_) | refine Se.toL rfl (Se.soq 2 (v := .pointer _) hs rfl rfl rfl rfl rfl (by kernel_rfl) ((by rw [L1.out]; omega)) (E2.out) ?_) | refine Se.toL rfl (Se.soq 2 (v := .string _) hs rfl rfl rfl rfl rfl (by kernel_rfl) ((by rw [L1.out]; omega)) (E2.out) ?_) | refine Se.toL rfl (Se.soq 2 (v := .map _) hs rfl rfl rfl rfl rfl (by kernel_rfl) ((by rw [L1.out]; omega)) (E2.out) ?_) | refine Se.toL rfl (Se.soq 2 (v := .func _ _ _) hs rfl rfl rfl rfl rfl (by kernel_rfl) ((by rw [L1.out]; omega)) (E2.out) ?_) | refine Se.toL rfl (Se.soq 2 (v := .nilFunc) hs rfl rfl rfl rfl rfl (by kernel_rfl) ((by rw [L1.out]; omega)) (E2.out) ?_)); clear hs; intro w hs; try simp only [List.cons_append, List.nil_append, List.set_cons_zero, List.set_cons_succ] at hs)))
   go_ret
   rw [HR2.out]
   refine ⟨rfl, ?_⟩
   rw [← HV2.out]
   exact hs.drop.drop
 ·have d1 : (n8 hk.f == 1) = false := by rw [show (1 : Int) = n8 1#8 from rfl, Bv.n8_beq]; simpa using hf
  have HR2 : Hid (R = ({ v with o := false, d := true }, 0)) := Lib.hid (by rw [HR.out, if_neg (fun h => hf h.1)])
  clear HR hf
  go_upto_region 12 with (fail)
  refine Ch.region' 20 (fun wx => Blk wx g5 KL 67) (fun  | _ => false) (by kernel_rfl) (by decide +kernel) (hs.drew.hold (.blk g5 67 KL) (by simp)) ?_
  replace hs := hs.drew
  generalize w.drew = w at hs ⊢
  change Ch.CW _ _ _ _ _ [0, 1, 2, 3, 4, 5, 6, 7, 8, 9, 10, 11, 12, 13, 14, 15, 16, 17, 18, 19] _ _
  iterate 4 ((first | (refine Ch.pure (v := ?_) (by rfl) (by rfl) (by rfl) (fun wx hS => ?_) ?_; rotate_left; (focus (go_simp; (first | done | with_reducible rfl)))) | refine Ch.pure (v := _) (by rfl) (by rfl) (by rfl) (fun wx hS => Se.xl rfl rfl ((hS.cell _).trans K1.out) (by decide +kernel)) ?_); (try simp only [Act.put, List.setIfInBounds_toArray, List.set_cons_zero, List.set_cons_succ]))
  iterate 14 (refine Ch.skip (by rfl) (by rfl) ?_; (try simp only [Act.put, List.setIfInBounds_toArray, List.set_cons_zero, List.set_cons_succ]))
  iterate 2 (refine Ch.pure (v := ?_) (by rfl) (by rfl) (by rfl) (fun wx hS => ?_) ?_; rotate_left; (focus (go_simp; (first | done | with_reducible rfl))); (try simp only [Act.put, List.setIfInBounds_toArray, List.set_cons_zero, List.set_cons_succ]))
  refine Ch.done ?_
  try simp only [List.drop_succ_cons, List.drop_zero]
  go_wp2_with (first | ((with_reducible refine Se.isL (o := ⟨none, Op.store 4 _ _, _, _, _, _⟩) ?_); ((first | refine Se.toL rfl (Se.soq 2 (v := .int _ _) hs rfl rfl rfl rfl rfl (by kernel_rfl) ((by rw [L1.out]; omega)) (E2.out) ?_) | refine Se.toL rfl (Se.soq 2 (v := .bool _) hs rfl rfl rfl rfl rfl (by kernel_rfl) ((by rw [L1.out]; omega)) (E2.out) ?_) | refine Se.toL rfl (Se.soq 2 (v := .slice _ _ _) hs rfl rfl rfl rfl rfl (by kernel_rfl) ((by rw [L1.out]; omega)) (E2.out) ?_) | refine Se.toL rfl (Se.soq 2 (v := .pointer _) hs rfl rfl rfl rfl rfl (by kernel_rfl) ((by rw [L1.out]; omega)) (E2.out) ?_) | refine Se.toL rfl (Se.soq 2 (v := .string _) hs rfl rfl rfl rfl rfl (by kernel_rfl) ((by rw [L1.out]; omega)) (E2.out) ?_) | refine Se.toL rfl (Se.soq 2 (v := .map _) hs rfl rfl rfl rfl rfl (by kernel_rfl) ((by rw [L1.out]; omega)) (E2.out) ?_) | refine Se.toL rfl (Se.soq 2 (v := .func _ _ _) hs rfl rfl rfl rfl rfl (by kernel_rfl) ((by rw [L1.out]; omega)) (E2.out) ?_) | refine Se.toL rfl (Se.soq 2 (v := .nilFunc) hs rfl rfl rfl rfl rfl (by kernel_rfl) ((by rw [L1.out]; omega)) (E2.out) ?_)); clear hs; intro w hs; try simp only [List.cons_append, List.nil_append, List.set_cons_zero, List.set_cons_succ] at hs)))
  go_ret
  rw [HR2.out]
  refine ⟨rfl, ?_⟩
  rw [← HV2.out]
  exact hs.drop.drop
end Au
end Go.Proofs.YtakdoijemopejaaGreat

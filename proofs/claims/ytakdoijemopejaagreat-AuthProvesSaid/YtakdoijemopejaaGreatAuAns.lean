/- Layer 38: a prover's Answer. No condition but Go's own limits. -/
import Derived.Test.YtakdoijemopejaaGreatAuChk
set_option linter.unusedSimpArgs false
set_option linter.unusedVariables false
namespace Go.Proofs.YtakdoijemopejaaGreat
open Go Go.RowKit
namespace Se
variable {P : Program} {w0 w : World} {X : List Nat} {L : List At} {o : Oper} {a : Act} {G : Value → World → Prop}
theorem fill_row2 {s : Nat} {cs0 : Array Value} (h0 : cs0.size = 2 * s) {xs ys : List Value} (hx : xs.length = s) (hy : ys.length = s) : Instr.fill (fun i => some (i * s, s)) cs0 [(0, .agg xs.toArray), (1, .agg ys.toArray)] = some (xs ++ ys).toArray := by
 have e := foldl_set (0 * s) xs 0 cs0 (by omega)
 rw [Nat.zero_mul, Nat.add_zero, List.take_zero, List.nil_append, Nat.zero_add, hx] at e
 simp only [Instr.fill, Value.cells, Nat.zero_mul, Nat.zero_add, Nat.one_mul] at e ⊢
 rw [if_neg (by simp; omega)]
 have e3 : xs.toArray.zipIdx = xs.zipIdx.toArray := by apply Array.toList_inj.1; simp
 rw [e3, List.foldl_toArray]
 obtain ⟨C, hC⟩ : ∃ C, C = xs.zipIdx.foldl (fun cs (p : Value × Nat) => cs.setIfInBounds p.2 p.1) cs0 := ⟨_, rfl⟩
 rw [← hC]
 have eC : C.toList = xs ++ cs0.toList.drop s := by rw [hC]; exact e
 have sC : C.size = 2 * s := by rw [← Array.length_toList, eC]; simp; omega
 have e2 := foldl_set s ys 0 C (by omega)
 rw [Nat.add_zero, eC, List.take_left' hx, List.drop_eq_nil_of_le (by simp; omega), List.append_nil] at e2
 rw [if_neg (by simp; omega)]
 have e4 : ys.toArray.zipIdx = ys.zipIdx.toArray := by apply Array.toList_inj.1; simp
 rw [e4, List.foldl_toArray]
 congr 1
 apply Array.toList_inj.1
 exact e2
/-- A literal slice of two elements of several cells. -/
theorem bs2 (hs : St w0 X L w) {ty : TypeId} {x y : Operand} (ho : o.op = .buildSlice ty 2 #[(0, x), (1, y)]) {e : TypeId} (ht : P.underlying ty = some (.slice e)) {z : Value} {s b : Nat} (hi : (P.info? e).map (fun i => (i.zero, i.size, i.bytes)) = some (some z, s, b)) (hb : 2 * s ≤ 16777216) (h0 : s ≠ 0) {xs ys : List Value} (hx : a.eval x = .agg xs.toArray) (hy : a.eval y = .agg ys.toArray) (hl : xs.length = s) (hm : ys.length = s)
  (h : ∀ (w' : World) (g : Nat), g = w.heap.size → St w0 X (.blk g e (xs ++ ys) :: L) w' → G (.slice (some ⟨g, 0, none⟩) 2 2) w') : Hv.Gives P o a w G := by
 refine bs hs ho ht (z := z) (s := s) ?_ (by omega) (by omega) (cs := (xs ++ ys).toArray) ?_ (by simpa using h)
 ·cases hq : P.info? e with
  | none => simp [hq] at hi
  | some i =>
   simp [hq] at hi ⊢
   exact ⟨hi.1, hi.2.1⟩
 ·simp only [List.map_toArray, List.map_cons, List.map_nil, hx, hy]
  exact fill_row2 (by simp) hl hm
end Se
namespace Au
open Se (St At Reads Cell)
open Li (v8 v8_one Rd Blk Fr)
open Bv (n8 n16 n32 n64)
variable {w0 w : World} {X : List Nat} {L : List At}
attribute [local irreducible] Calls
set_option maxRecDepth 100000 in
set_option maxHeartbeats 4000000 in
theorem ans_st {v : Vs} {A B : Option Addr} {c g n cb : Nat} {b : Bs} (hs : St w0 X (.blk g 83 (vcl v A c) :: L) w) (hv : v.ok) (hr : Reads L A (v.p.sec.map v8)) (hb : Reads L B (b.map v8)) (hn : n = b.length) (hle : n ≤ 1000) (both : Bool) (nonce : Bs) (hnl : nonce.length = 32) :
  Calls Tryz.prog 19 #[.pointer (some ⟨g, 0, none⟩), .slice B n cb, .bool both, .agg (nonce.map v8).toArray] w fun e w' => MsgR w0 X L g 83 A c (ansS v b both nonce) e w' := by
 obtain ⟨R, hR⟩ : ∃ R, R = ansS v b both nonce := ⟨_, rfl⟩
 rw [← hR]
 obtain ⟨VL, hVL⟩ : ∃ VL, VL = vcl v A c := ⟨_, rfl⟩
 obtain ⟨PL, hPL⟩ : ∃ PL, PL = pcl v.p A c := ⟨_, rfl⟩
 obtain ⟨E, hE⟩ : ∃ E, E = parE b 1#8 0#8 1 := ⟨_, rfl⟩
 obtain ⟨NV, hNV⟩ : ∃ NV, NV = nonce.map v8 := ⟨_, rfl⟩
 have NL := Lib.hid (show NV.length = 32 by rw [hNV]; simpa using hnl)
 have VLL := Lib.hid (show VL.length = 41 by rw [hVL]; exact vcl_len hv.n A c)
 have PLL := Lib.hid (show PL.length = 3 by rw [hPL]; rfl)
 have HVL := Lib.hid hVL
 have RP := Lib.hid (show ∀ L, Reads (.blk g 83 VL :: L) (some ⟨g, 0, none⟩) PL by intro L; rw [hVL, hPL]; exact vcl_rd v A c g _ L)
 have CN : Hid (∀ (L' : List At) (w : World), St w0 X L' w → Calls Tryz.prog 28 #[.agg PL.toArray] w fun e w' => e = .returned (.bool false) ∧ St w0 X L' w') := Lib.hid (fun L' w hs => by rw [hPL]; exact none_st hs v.p A c hv.k1)
 have CP : Hid (∀ (g7 : Nat) (w : World), St w0 X (.blk g7 34 NV :: .blk g 83 VL :: L) w → Calls Tryz.prog 34 #[.slice B n cb, .int .u8 1, .int .u8 0, .int .i64 1] w fun e w' => ParR w0 X (.blk g7 34 NV :: .blk g 83 VL :: L) b 1 E e w') := Lib.hid (fun g7 w hs => by rw [hE]; exact parsed_st hs ((hb.cons _).cons _) hn hle 1#8 0#8 1 0 rfl (by omega))
 rw [← hVL] at hs
 rw [← hNV]
 have hR2 : R = if E ≠ 0 then (v, [], E) else ({ v with h := { hdOf b with k := 2#8, f := if both then 1#8 else (hdOf b).f }, n := if both then nonce else z32, o := true, d := false }, msg { hdOf b with k := 2#8, f := if both then 1#8 else (hdOf b).f } [resp v.p.py (prt b 0) { hdOf b with k := 2#8, f := if both then 1#8 else (hdOf b).f } 72#8, if both then nonce else z32], 0) := by rw [hR, hE]; rfl
 have HE := Lib.hid hE
 have HR := Lib.hid hR2
 have HPL := Lib.hid hPL
 have HNV := Lib.hid hNV
 have hr0 := Lib.hid hr
 have hnl := Lib.hid hnl
 clear hVL hPL hE hR hR2 hr hn hb hle hNV
 go_enter Tryz.func19, Tryz.ntmps19
 go_upto_region 3 with (first | ((with_reducible refine Se.isL (o := ⟨some 19, _, _, _, _, _⟩) ?_); (refine Se.toL rfl (Se.ldw (o := ⟨some 19, _, _, _, _, _⟩) hs rfl rfl (((RP.out _).cons _)) ((by rw [PLL.out]; kernel_rfl)) (by kernel_rfl) ?_))) | ((first | with_reducible refine Se.ab hs ?_ | with_reducible refine Se.abc hs ?_); clear hs; (first | (generalize w.heap.size = g7; intro w hs))) | (go_at_call 28; refine Calls.mono (CN.out _ _ hs) ?_; clear hs; rintro e w ⟨rfl, hs⟩))
 go_wp2_with (first | (go_at_call 34; fail))
 refine Calls.mono (CP.out _ _ hs) ?_
 clear hs CP CN
 rintro e w (⟨hE0, rfl, hs⟩ | ⟨hE0, rB, AB, c2, rfl, hs⟩)
 ·have hne := int_ne hE0
  have HR2 : Hid (R = (v, [], E)) := Lib.hid (by rw [HR.out, if_pos hE0])
  clear hE0 HR
  go_wp2_with (first | ((with_reducible refine Se.isL (o := ⟨some 10, _, _, _, _, _⟩) ?_); (refine Se.toL rfl (Se.al (o := ⟨some 10, _, _, _, _, _⟩) hs rfl (headI) ?_); clear hs; rintro w g10 - hs)) | ((with_reducible refine Se.isL (o := ⟨none, _, _, _, _, _⟩) ?_); (refine Se.toL rfl (Se.sow 0 hs rfl rfl rfl rfl ((by simp [Value.oneCell'])) ((by kernel_rfl)) (rfl) ?_); clear hs; intro w hs; try simp only [List.cons_append, List.nil_append, List.set_cons_zero] at hs)))
  go_ret2
  refine ⟨none, none, 0, 0, by rw [HR2.out]; rfl, by rw [HR2.out]; rfl, ?_⟩
  rw [HR2.out]
  try simp only
  rw [← HVL.out]
  exact hs.drop.drop.nil_own 1 none
 have hl := Lib.hid (parE_len (HE.out.symm.trans hE0))
 have HR2 : Hid (R = _) := Lib.hid (by rw [HR.out, if_neg (by omega)])
 clear HR
 have HR := HR2
 clear HR2 HE
 obtain ⟨hd, hhd⟩ : ∃ hd, hd = hdOf b := ⟨_, rfl⟩
 rw [← hhd] at HR ⊢
 obtain ⟨HL, hHL⟩ : ∃ HL, HL = hc hd := ⟨_, rfl⟩
 have HLL := Lib.hid (show HL.length = 4 by rw [hHL]; rfl)
 have HLO := Lib.hid (show ∀ x ∈ HL, x.oneCell' = true by rw [hHL]; simp [hc, Value.oneCell'])
 obtain ⟨H2, hH2⟩ : ∃ H2, H2 = hc { hd with k := 2#8 } := ⟨_, rfl⟩
 have EH := Lib.hid (show HL.set 0 (.int .u8 2) = H2 by rw [hHL, hH2]; rfl)
 have H2L := Lib.hid (show H2.length = 4 by rw [hH2]; rfl)
 have HH2 := Lib.hid hH2
 rw [← hHL]
 obtain ⟨gB, oB, rfl, rfl⟩ := hs.own_at 0 rfl (by omega)
 clear hE0 hhd hHL hH2
 cases both with
 | true =>
  obtain ⟨hk, hhk⟩ : ∃ hk : Hd, hk = { hd with k := 2#8, f := 1#8 } := ⟨_, rfl⟩
  obtain ⟨nn, hnn0⟩ : ∃ nn : Bs, nn = nonce := ⟨_, rfl⟩
  have hnn : nn.length = 32 := by rw [hnn0]; exact hnl.out
  have HR2 : Hid (R = ({ v with h := hk, n := nn, o := true, d := false }, msg hk [resp v.p.py (prt b 0) hk 72#8, nn], 0)) := Lib.hid (by rw [HR.out, hhk, hnn0]; rfl)
  clear HR
  have HR := HR2
  clear HR2
  go_upto_region 9 with (first | ((with_reducible refine Se.isL (o := ⟨some 10, _, _, _, _, _⟩) ?_); (refine Se.toL rfl (Se.al (o := ⟨some 10, _, _, _, _, _⟩) hs rfl (headI) ?_); clear hs; rintro w g10 - hs)) | ((with_reducible refine Se.isL (o := ⟨none, _, _, _, _, _⟩) ?_); (refine Se.toL rfl (Se.sow 0 hs rfl rfl rfl rfl (HLO.out) ((by rw [HLL.out]; kernel_rfl)) (HLL.out) ?_); clear hs; intro w hs; try simp only [List.cons_append, List.nil_append, List.set_cons_zero] at hs)) | ((with_reducible refine Se.isL (o := ⟨none, Op.store 5 _ _, _, _, _, _⟩) ?_); ((first | refine Se.toL rfl (Se.soq 0 (v := .int _ _) hs rfl rfl rfl rfl rfl (by kernel_rfl) ((by rw [HLL.out]; omega)) (EH.out) ?_) | refine Se.toL rfl (Se.soq 0 (v := .bool _) hs rfl rfl rfl rfl rfl (by kernel_rfl) ((by rw [HLL.out]; omega)) (EH.out) ?_) | refine Se.toL rfl (Se.soq 0 (v := .slice _ _ _) hs rfl rfl rfl rfl rfl (by kernel_rfl) ((by rw [HLL.out]; omega)) (EH.out) ?_) | refine Se.toL rfl (Se.soq 0 (v := .pointer _) hs rfl rfl rfl rfl rfl (by kernel_rfl) ((by rw [HLL.out]; omega)) (EH.out) ?_) | refine Se.toL rfl (Se.soq 0 (v := .string _) hs rfl rfl rfl rfl rfl (by kernel_rfl) ((by rw [HLL.out]; omega)) (EH.out) ?_) | refine Se.toL rfl (Se.soq 0 (v := .map _) hs rfl rfl rfl rfl rfl (by kernel_rfl) ((by rw [HLL.out]; omega)) (EH.out) ?_) | refine Se.toL rfl (Se.soq 0 (v := .func _ _ _) hs rfl rfl rfl rfl rfl (by kernel_rfl) ((by rw [HLL.out]; omega)) (EH.out) ?_) | refine Se.toL rfl (Se.soq 0 (v := .nilFunc) hs rfl rfl rfl rfl rfl (by kernel_rfl) ((by rw [HLL.out]; omega)) (EH.out) ?_)); clear hs; intro w hs; try simp only [List.cons_append, List.nil_append, List.set_cons_zero] at hs)))
  obtain ⟨KL, hKL⟩ : ∃ KL, KL = hc hk := ⟨_, rfl⟩
  have KLL := Lib.hid (show KL.length = 4 by rw [hKL]; rfl)
  have KLO := Lib.hid (show ∀ x ∈ KL, x.oneCell' = true by rw [hKL]; simp [hc, Value.oneCell'])
  obtain ⟨NW, hNW⟩ : ∃ NW, NW = nn.map v8 := ⟨_, rfl⟩
  have NWL := Lib.hid (show NW.length = 32 by rw [hNW]; simpa using hnn)
  have NWO := Lib.hid (show ∀ x ∈ NW, x.oneCell' = true by rw [hNW]; exact v8_one _)
  obtain ⟨V1, hV1⟩ : ∃ V1, V1 = vcl { v with h := hk } A c := ⟨_, rfl⟩
  obtain ⟨V2, hV2⟩ : ∃ V2, V2 = vcl { v with h := hk, n := nn } A c := ⟨_, rfl⟩
  obtain ⟨V3, hV3⟩ : ∃ V3, V3 = vcl { v with h := hk, n := nn, o := true } A c := ⟨_, rfl⟩
  obtain ⟨V4, hV4⟩ : ∃ V4, V4 = vcl { v with h := hk, n := nn, o := true, d := false } A c := ⟨_, rfl⟩
  have E1 := Lib.hid (show VL.take 3 ++ KL ++ VL.drop (3 + KL.length) = V1 by rw [HVL.out, hV1, hKL]; exact vcl_setH v A c hk)
  have E2 := Lib.hid (show V1.take 7 ++ NW ++ V1.drop (7 + NW.length) = V2 by rw [hV1, hV2, hNW]; exact vcl_setN (v := { v with h := hk }) hv.n A c hnn)
  have E3 := Lib.hid (show V2.set 39 (.bool true) = V3 by rw [hV2, hV3]; exact vcl_setO (v := { v with h := hk, n := nn }) hnn A c true)
  have E4 := Lib.hid (show V3.set 40 (.bool false) = V4 by rw [hV3, hV4]; exact vcl_setD (v := { v with h := hk, n := nn, o := true }) hnn A c false)
  have L1 := Lib.hid (show V1.length = 41 by rw [hV1]; exact vcl_len (v := { v with h := hk }) hv.n A c)
  have L2 := Lib.hid (show V2.length = 41 by rw [hV2]; exact vcl_len (v := { v with h := hk, n := nn }) hnn A c)
  have L3 := Lib.hid (show V3.length = 41 by rw [hV3]; exact vcl_len (v := { v with h := hk, n := nn, o := true }) hnn A c)
  have RP4 := Lib.hid (show ∀ L, Reads (.blk g 83 V4 :: L) (some ⟨g, 0, none⟩) PL by intro L; rw [hV4, HPL.out]; exact vcl_rd { v with h := hk, n := nn, o := true, d := false } A c g _ L)
  have HV4 := Lib.hid hV4
  obtain ⟨R1, hR1⟩ : ∃ R1 : Bs, R1 = resp v.p.py (prt b 0) hk 72#8 := ⟨_, rfl⟩
  have hR1L : R1.length = 32 := by rw [hR1]; exact resp_len _ _ _ _
  obtain ⟨RV, hRV⟩ : ∃ RV, RV = R1.map v8 := ⟨_, rfl⟩
  have RVL := Lib.hid (show RV.length = 32 by rw [hRV]; simpa using hR1L)
  rw [← hR1] at HR
  obtain ⟨P0V, hP0⟩ : ∃ P0V, P0V = (prt b 0).map v8 := ⟨_, rfl⟩
  have P0L := Lib.hid (show P0V.length = 32 by rw [hP0]; simpa using prt_len hl.out (by omega : 0 < 1))
  have RB0 := Lib.hid (show ∀ L', Reads (.own 32 (some gB) (some ⟨gB, oB, none⟩) 1 c2 ((b.drop 8).map v8) :: L') (some ⟨gB, oB, none⟩) P0V by
   intro L'
   have h := (Reads.own (L := .own 32 (some gB) (some ⟨gB, oB, none⟩) 1 c2 ((b.drop 8).map v8) :: L') 0 rfl).take 32
   rw [← List.map_take] at h
   rw [hP0]; exact h)
  have CR : Hid (∀ w, St w0 X (.blk g10 67 KL :: .own 32 (some gB) (some ⟨gB, oB, none⟩) 1 c2 ((b.drop 8).map v8) :: .blk g7 34 NW :: .blk g 83 V4 :: L) w → Calls Tryz.prog 35 #[.agg PL.toArray, .agg P0V.toArray, .agg KL.toArray, .int .u8 72] w fun e w' => e = .returned (.agg RV.toArray) ∧ St w0 X (.blk g10 67 KL :: .own 32 (some gB) (some ⟨gB, oB, none⟩) 1 c2 ((b.drop 8).map v8) :: .blk g7 34 NW :: .blk g 83 V4 :: L) w') := Lib.hid (fun w hs => by
   rw [HPL.out, hP0, hKL, hRV, hR1]
   rw [hKL] at hs
   exact resp_st hs v.p A c (prt b 0) hk 72#8 (hr0.out.mono (by intro _ h; simp only [List.mem_cons, h, or_true])) hv.k (prt_len hl.out (by omega : 0 < 1)) hv.a hv.b)
  have CM : Hid (∀ (L' : List At) (g61 : Nat) (t : TypeId) (w : World), St w0 X (.blk g61 t (RV ++ NW) :: L') w → Calls Tryz.prog 29 #[.agg KL.toArray, .slice (some ⟨g61, 0, none⟩) 2 2] w fun e w' => ∃ r2 A2 c2, e = .returned (.slice A2 72 c2) ∧ St w0 X (.own 1 r2 A2 72 c2 ((msg hk [R1, nn]).map v8) :: .blk g61 t (RV ++ NW) :: L') w') := Lib.hid (fun L' g61 t w hs => by
   rw [hKL]
   exact msg_st hs hk [R1, nn] (k := 2) (c := 2) rfl (by omega) (by simp [hR1L, hnn]) (by rw [show [R1, nn].flatten = R1 ++ nn by simp, List.map_append, ← hRV, ← hNW]; exact Reads.blk 0 rfl))
  have ML := Lib.hid (show (msg hk [R1, nn]).length = 72 by rw [msg_len _ [R1, nn] (by simp [hR1L, hnn])]; rfl)
  have SQ := Lib.hid (show ∀ w V, (∀ a ∈ .blk g10 67 KL :: .own 32 (some gB) (some ⟨gB, oB, none⟩) 1 c2 ((b.drop 8).map v8) :: .blk g7 34 NW :: .blk g 83 V :: L, a.holds w) → Blk w g10 KL 67 ∧ Blk w g7 NW 34 by
   intro w V h; exact ⟨h (.blk g10 67 KL) (by simp), h (.blk g7 34 NW) (by simp)⟩)
  have SP := Lib.hid (show ∀ w, (∀ a ∈ .blk g10 67 KL :: .own 32 (some gB) (some ⟨gB, oB, none⟩) 1 c2 ((b.drop 8).map v8) :: .blk g7 34 NW :: .blk g 83 V4 :: L, a.holds w) → Blk w g10 KL 67 ∧ Blk w g7 NW 34 ∧ Rd w (some ⟨gB, oB, none⟩) P0V ∧ Rd w (some ⟨g, 0, none⟩) PL by
   intro w h
   exact ⟨h (.blk g10 67 KL) (by simp), h (.blk g7 34 NW) (by simp), (RB0.out _).cons _ w h, (((RP4.out _).cons _).cons _).cons _ w h⟩)

  have EK := Lib.hid (show H2.set 1 (.int .u8 1) = KL by rw [HH2.out, hKL, hhk]; rfl)
  have hNN : NV = NW := by rw [HNV.out, hNW, hnn0]
  rw [hNN] at hs
  clear hKL hNW hV1 hV2 hV3 hV4 hR1 hR1L hRV hP0 hnn hnn0 hhk hNN
  go_upto_region 10 with (first | ((with_reducible refine Se.isL (o := ⟨none, Op.store 5 _ _, _, _, _, _⟩) ?_); ((first | refine Se.toL rfl (Se.soq 0 (v := .int _ _) hs rfl rfl rfl rfl rfl (by kernel_rfl) ((by rw [H2L.out]; omega)) (EK.out) ?_) | refine Se.toL rfl (Se.soq 0 (v := .bool _) hs rfl rfl rfl rfl rfl (by kernel_rfl) ((by rw [H2L.out]; omega)) (EK.out) ?_) | refine Se.toL rfl (Se.soq 0 (v := .slice _ _ _) hs rfl rfl rfl rfl rfl (by kernel_rfl) ((by rw [H2L.out]; omega)) (EK.out) ?_) | refine Se.toL rfl (Se.soq 0 (v := .pointer _) hs rfl rfl rfl rfl rfl (by kernel_rfl) ((by rw [H2L.out]; omega)) (EK.out) ?_) | refine Se.toL rfl (Se.soq 0 (v := .string _) hs rfl rfl rfl rfl rfl (by kernel_rfl) ((by rw [H2L.out]; omega)) (EK.out) ?_) | refine Se.toL rfl (Se.soq 0 (v := .map _) hs rfl rfl rfl rfl rfl (by kernel_rfl) ((by rw [H2L.out]; omega)) (EK.out) ?_) | refine Se.toL rfl (Se.soq 0 (v := .func _ _ _) hs rfl rfl rfl rfl rfl (by kernel_rfl) ((by rw [H2L.out]; omega)) (EK.out) ?_) | refine Se.toL rfl (Se.soq 0 (v := .nilFunc) hs rfl rfl rfl rfl rfl (by kernel_rfl) ((by rw [H2L.out]; omega)) (EK.out) ?_)); clear hs; intro w hs; try simp only [List.cons_append, List.nil_append, List.set_cons_zero] at hs)))
  refine Ch.region' 18 (fun wx => Blk wx g10 KL 67 ∧ Blk wx g7 NW 34) (fun | 8 => true | 11 => true | 14 => true | 17 => true | _ => false) (by kernel_rfl) (by decide +kernel) (SQ.out _ _ hs.drew.hold) ?_
  replace hs := hs.drew
  generalize w.drew = w at hs ⊢
  change Ch.CW _ _ _ _ _ [0, 1, 2, 3, 4, 5, 6, 7, 8, 9, 10, 11, 12, 13, 14, 15, 16, 17] _ _
  iterate 8 ((first | (refine Ch.pure (v := ?_) (by rfl) (by rfl) (by rfl) (fun wx hS => ?_) ?_; rotate_left; (focus (go_simp; (first | done | with_reducible rfl)))) | refine Ch.pure (v := _) (by rfl) (by rfl) (by rfl) (fun wx hS => Se.xla rfl rfl (Li.Rd.of_blk hS.1) (by rw [KLL.out]; kernel_rfl) (by decide +kernel)) ?_ | refine Ch.pure (v := _) (by rfl) (by rfl) (by rfl) (fun wx hS => Se.xla rfl rfl (Li.Rd.of_blk hS.2) (by rw [NWL.out]; kernel_rfl) (by decide +kernel)) ?_); (try simp only [Act.put, List.setIfInBounds_toArray, List.set_cons_zero, List.set_cons_succ]))
  refine Ch.noise (by rfl) (by rfl) (by rfl) (Au.soaq 3 (vs := KL) hs rfl rfl rfl rfl KLO.out (by rw [KLL.out]; kernel_rfl) (by rw [KLL.out, VLL.out]; omega) E1.out ?_)
  clear hs
  intro w hs
  simp only [List.set_cons_zero, List.set_cons_succ] at hs
  refine ⟨SQ.out _ _ hs.hold, ?_⟩
  (try simp only [Act.put, List.setIfInBounds_toArray, List.set_cons_zero, List.set_cons_succ])
  iterate 2 (refine Ch.pure (v := ?_) (by rfl) (by rfl) (by rfl) (fun wx hS => ?_) ?_; rotate_left; (focus (go_simp; (first | done | with_reducible rfl))); (try simp only [Act.put, List.setIfInBounds_toArray, List.set_cons_zero, List.set_cons_succ]))
  refine Ch.noise (by rfl) (by rfl) (by rfl) (Au.soaq 3 (vs := NW) hs rfl rfl rfl rfl NWO.out (by rw [NWL.out]; kernel_rfl) (by rw [NWL.out, L1.out]; omega) E2.out ?_)
  clear hs
  intro w hs
  simp only [List.set_cons_zero, List.set_cons_succ] at hs
  refine ⟨SQ.out _ _ hs.hold, ?_⟩
  (try simp only [Act.put, List.setIfInBounds_toArray, List.set_cons_zero, List.set_cons_succ])
  iterate 2 (refine Ch.pure (v := ?_) (by rfl) (by rfl) (by rfl) (fun wx hS => ?_) ?_; rotate_left; (focus (go_simp; (first | done | with_reducible rfl))); (try simp only [Act.put, List.setIfInBounds_toArray, List.set_cons_zero, List.set_cons_succ]))
  refine Ch.noise (by rfl) (by rfl) (by rfl) (Se.soq 3 (v := .bool true) hs rfl rfl rfl rfl rfl (by kernel_rfl) (by rw [L2.out]; omega) E3.out ?_)
  clear hs
  intro w hs
  simp only [List.set_cons_zero, List.set_cons_succ] at hs
  refine ⟨SQ.out _ _ hs.hold, ?_⟩
  (try simp only [Act.put, List.setIfInBounds_toArray, List.set_cons_zero, List.set_cons_succ])
  iterate 2 (refine Ch.pure (v := ?_) (by rfl) (by rfl) (by rfl) (fun wx hS => ?_) ?_; rotate_left; (focus (go_simp; (first | done | with_reducible rfl))); (try simp only [Act.put, List.setIfInBounds_toArray, List.set_cons_zero, List.set_cons_succ]))
  refine Ch.noise (by rfl) (by rfl) (by rfl) (Se.soq 3 (v := .bool false) hs rfl rfl rfl rfl rfl (by kernel_rfl) (by rw [L3.out]; omega) E4.out ?_)
  clear hs
  intro w hs
  simp only [List.set_cons_zero, List.set_cons_succ] at hs
  refine ⟨SQ.out _ _ hs.hold, ?_⟩
  (try simp only [Act.put, List.setIfInBounds_toArray, List.set_cons_zero, List.set_cons_succ])
  refine Ch.done ?_
  try simp only [List.drop_succ_cons, List.drop_zero]
  go_upto_region 11 with (fail)
  refine Ch.region' 15 (fun wx => Blk wx g10 KL 67 ∧ Blk wx g7 NW 34 ∧ Rd wx (some ⟨gB, oB, none⟩) P0V ∧ Rd wx (some ⟨g, 0, none⟩) PL) (fun | 9 => true | 11 => true | 12 => true | _ => false) (by kernel_rfl) (by decide +kernel) (SP.out _ hs.drew.hold) ?_
  replace hs := hs.drew
  generalize w.drew = w at hs ⊢
  change Ch.CW _ _ _ _ _ [0, 1, 2, 3, 4, 5, 6, 7, 8, 9, 10, 11, 12, 13, 14] _ _
  iterate 9 ((first | (refine Ch.pure (v := ?_) (by rfl) (by rfl) (by rfl) (fun wx hS => ?_) ?_; rotate_left; (focus (go_simp; (first | done | with_reducible rfl)))) | refine Ch.pure (v := _) (by rfl) (by rfl) (by rfl) (fun wx hS => Se.xla rfl rfl (Li.Rd.of_blk hS.1) (by rw [KLL.out]; kernel_rfl) (by decide +kernel)) ?_ | refine Ch.pure (v := _) (by rfl) (by rfl) (by rfl) (fun wx hS => Se.xla rfl rfl hS.2.2.1 (by rw [P0L.out]; kernel_rfl) (by decide +kernel)) ?_ | refine Ch.pure (v := _) (by rfl) (by rfl) (by rfl) (fun wx hS => Se.xla rfl rfl hS.2.2.2 (by rw [PLL.out]; kernel_rfl) (by decide +kernel)) ?_); (try simp only [Act.put, List.setIfInBounds_toArray, List.set_cons_zero, List.set_cons_succ]))
  refine Ch.noise (by rfl) (by rfl) (by rfl) ?_
  refine Se.gcall (f := 35) (args := #[.agg PL.toArray, .agg P0V.toArray, .agg KL.toArray, .int .u8 72]) ?_ ?_
  ·go_simp
  refine Calls.mono (CR.out _ hs) ?_
  clear hs
  rintro e w ⟨rfl, hs⟩
  refine ⟨_, rfl, SP.out _ hs.hold, ?_⟩
  (try simp only [Act.put, List.setIfInBounds_toArray, List.set_cons_zero, List.set_cons_succ])
  iterate 1 ((first | (refine Ch.pure (v := ?_) (by rfl) (by rfl) (by rfl) (fun wx hS => ?_) ?_; rotate_left; (focus (go_simp; (first | done | with_reducible rfl)))) | refine Ch.pure (v := _) (by rfl) (by rfl) (by rfl) (fun wx hS => Se.xla rfl rfl (Li.Rd.of_blk hS.2.1) (by rw [NWL.out]; kernel_rfl) (by decide +kernel)) ?_); (try simp only [Act.put, List.setIfInBounds_toArray, List.set_cons_zero, List.set_cons_succ]))
  refine Ch.noise (by rfl) (by rfl) (by rfl) (Se.bs2 hs rfl Tryz.underlying77 a32I3 (by decide) (by decide) rfl rfl RVL.out NWL.out ?_)
  clear hs
  rintro w g61 - hs
  refine ⟨SP.out _ hs.drop.hold, ?_⟩
  (try simp only [Act.put, List.setIfInBounds_toArray, List.set_cons_zero, List.set_cons_succ])
  refine Ch.noise (by rfl) (by rfl) (by rfl) ?_
  refine Se.gcall (f := 29) (args := #[.agg KL.toArray, .slice (some ⟨g61, 0, none⟩) 2 2]) ?_ ?_
  ·go_simp
  refine Calls.mono (CM.out _ _ _ _ hs) ?_
  clear hs
  rintro e w ⟨r2, A2, c3, rfl, hs⟩
  refine ⟨_, rfl, SP.out _ hs.drop.drop.hold, ?_⟩
  (try simp only [Act.put, List.setIfInBounds_toArray, List.set_cons_zero, List.set_cons_succ])
  iterate 2 (refine Ch.pure (v := ?_) (by rfl) (by rfl) (by rfl) (fun wx hS => ?_) ?_; rotate_left; (focus (go_simp; (first | done | with_reducible rfl))); (try simp only [Act.put, List.setIfInBounds_toArray, List.set_cons_zero, List.set_cons_succ]))
  refine Ch.done ?_
  try simp only [List.drop_succ_cons, List.drop_zero]
  go_wp2_with fail
  go_ret2
  refine ⟨r2, A2, c3, 72, by rw [HR.out]; exact ML.out.symm, by rw [HR.out]; rfl, ?_⟩
  rw [HR.out]
  try simp only
  rw [← HV4.out]
  replace hs := hs.pull 5 rfl
  replace hs := hs.pull 1 rfl
  replace hs := hs.pull 5 rfl
  replace hs := hs.pull 5 rfl
  replace hs := hs.pull 5 rfl
  replace hs := hs.pull 5 rfl
  simp only [List.eraseIdx_cons_succ, List.eraseIdx_cons_zero] at hs
  exact hs.drop.drop.drop.drop
 | false =>
  obtain ⟨hk, hhk⟩ : ∃ hk : Hd, hk = { hd with k := 2#8 } := ⟨_, rfl⟩
  obtain ⟨nn, hnn0⟩ : ∃ nn : Bs, nn = z32 := ⟨_, rfl⟩
  have hnn : nn.length = 32 := by rw [hnn0]; rfl
  have HR2 : Hid (R = ({ v with h := hk, n := nn, o := true, d := false }, msg hk [resp v.p.py (prt b 0) hk 72#8, nn], 0)) := Lib.hid (by rw [HR.out, hhk, hnn0]; rfl)
  clear HR
  have HR := HR2
  clear HR2
  go_upto_region 8 with (first | ((with_reducible refine Se.isL (o := ⟨some 10, _, _, _, _, _⟩) ?_); (refine Se.toL rfl (Se.al (o := ⟨some 10, _, _, _, _, _⟩) hs rfl (headI) ?_); clear hs; rintro w g10 - hs)) | ((with_reducible refine Se.isL (o := ⟨none, _, _, _, _, _⟩) ?_); (refine Se.toL rfl (Se.sow 0 hs rfl rfl rfl rfl (HLO.out) ((by rw [HLL.out]; kernel_rfl)) (HLL.out) ?_); clear hs; intro w hs; try simp only [List.cons_append, List.nil_append, List.set_cons_zero] at hs)) | ((with_reducible refine Se.isL (o := ⟨none, Op.store 5 _ _, _, _, _, _⟩) ?_); ((first | refine Se.toL rfl (Se.soq 0 (v := .int _ _) hs rfl rfl rfl rfl rfl (by kernel_rfl) ((by rw [HLL.out]; omega)) (EH.out) ?_) | refine Se.toL rfl (Se.soq 0 (v := .bool _) hs rfl rfl rfl rfl rfl (by kernel_rfl) ((by rw [HLL.out]; omega)) (EH.out) ?_) | refine Se.toL rfl (Se.soq 0 (v := .slice _ _ _) hs rfl rfl rfl rfl rfl (by kernel_rfl) ((by rw [HLL.out]; omega)) (EH.out) ?_) | refine Se.toL rfl (Se.soq 0 (v := .pointer _) hs rfl rfl rfl rfl rfl (by kernel_rfl) ((by rw [HLL.out]; omega)) (EH.out) ?_) | refine Se.toL rfl (Se.soq 0 (v := .string _) hs rfl rfl rfl rfl rfl (by kernel_rfl) ((by rw [HLL.out]; omega)) (EH.out) ?_) | refine Se.toL rfl (Se.soq 0 (v := .map _) hs rfl rfl rfl rfl rfl (by kernel_rfl) ((by rw [HLL.out]; omega)) (EH.out) ?_) | refine Se.toL rfl (Se.soq 0 (v := .func _ _ _) hs rfl rfl rfl rfl rfl (by kernel_rfl) ((by rw [HLL.out]; omega)) (EH.out) ?_) | refine Se.toL rfl (Se.soq 0 (v := .nilFunc) hs rfl rfl rfl rfl rfl (by kernel_rfl) ((by rw [HLL.out]; omega)) (EH.out) ?_)); clear hs; intro w hs; try simp only [List.cons_append, List.nil_append, List.set_cons_zero] at hs)))
  obtain ⟨KL, hKL⟩ : ∃ KL, KL = hc hk := ⟨_, rfl⟩
  have KLL := Lib.hid (show KL.length = 4 by rw [hKL]; rfl)
  have KLO := Lib.hid (show ∀ x ∈ KL, x.oneCell' = true by rw [hKL]; simp [hc, Value.oneCell'])
  obtain ⟨NW, hNW⟩ : ∃ NW, NW = nn.map v8 := ⟨_, rfl⟩
  have NWL := Lib.hid (show NW.length = 32 by rw [hNW]; simpa using hnn)
  have NWO := Lib.hid (show ∀ x ∈ NW, x.oneCell' = true by rw [hNW]; exact v8_one _)
  obtain ⟨V1, hV1⟩ : ∃ V1, V1 = vcl { v with h := hk } A c := ⟨_, rfl⟩
  obtain ⟨V2, hV2⟩ : ∃ V2, V2 = vcl { v with h := hk, n := nn } A c := ⟨_, rfl⟩
  obtain ⟨V3, hV3⟩ : ∃ V3, V3 = vcl { v with h := hk, n := nn, o := true } A c := ⟨_, rfl⟩
  obtain ⟨V4, hV4⟩ : ∃ V4, V4 = vcl { v with h := hk, n := nn, o := true, d := false } A c := ⟨_, rfl⟩
  have E1 := Lib.hid (show VL.take 3 ++ KL ++ VL.drop (3 + KL.length) = V1 by rw [HVL.out, hV1, hKL]; exact vcl_setH v A c hk)
  have E2 := Lib.hid (show V1.take 7 ++ NW ++ V1.drop (7 + NW.length) = V2 by rw [hV1, hV2, hNW]; exact vcl_setN (v := { v with h := hk }) hv.n A c hnn)
  have E3 := Lib.hid (show V2.set 39 (.bool true) = V3 by rw [hV2, hV3]; exact vcl_setO (v := { v with h := hk, n := nn }) hnn A c true)
  have E4 := Lib.hid (show V3.set 40 (.bool false) = V4 by rw [hV3, hV4]; exact vcl_setD (v := { v with h := hk, n := nn, o := true }) hnn A c false)
  have L1 := Lib.hid (show V1.length = 41 by rw [hV1]; exact vcl_len (v := { v with h := hk }) hv.n A c)
  have L2 := Lib.hid (show V2.length = 41 by rw [hV2]; exact vcl_len (v := { v with h := hk, n := nn }) hnn A c)
  have L3 := Lib.hid (show V3.length = 41 by rw [hV3]; exact vcl_len (v := { v with h := hk, n := nn, o := true }) hnn A c)
  have RP4 := Lib.hid (show ∀ L, Reads (.blk g 83 V4 :: L) (some ⟨g, 0, none⟩) PL by intro L; rw [hV4, HPL.out]; exact vcl_rd { v with h := hk, n := nn, o := true, d := false } A c g _ L)
  have HV4 := Lib.hid hV4
  obtain ⟨R1, hR1⟩ : ∃ R1 : Bs, R1 = resp v.p.py (prt b 0) hk 72#8 := ⟨_, rfl⟩
  have hR1L : R1.length = 32 := by rw [hR1]; exact resp_len _ _ _ _
  obtain ⟨RV, hRV⟩ : ∃ RV, RV = R1.map v8 := ⟨_, rfl⟩
  have RVL := Lib.hid (show RV.length = 32 by rw [hRV]; simpa using hR1L)
  rw [← hR1] at HR
  obtain ⟨P0V, hP0⟩ : ∃ P0V, P0V = (prt b 0).map v8 := ⟨_, rfl⟩
  have P0L := Lib.hid (show P0V.length = 32 by rw [hP0]; simpa using prt_len hl.out (by omega : 0 < 1))
  have RB0 := Lib.hid (show ∀ L', Reads (.own 32 (some gB) (some ⟨gB, oB, none⟩) 1 c2 ((b.drop 8).map v8) :: L') (some ⟨gB, oB, none⟩) P0V by
   intro L'
   have h := (Reads.own (L := .own 32 (some gB) (some ⟨gB, oB, none⟩) 1 c2 ((b.drop 8).map v8) :: L') 0 rfl).take 32
   rw [← List.map_take] at h
   rw [hP0]; exact h)
  have CR : Hid (∀ w, St w0 X (.blk g10 67 KL :: .own 32 (some gB) (some ⟨gB, oB, none⟩) 1 c2 ((b.drop 8).map v8) :: .blk g7 34 NW :: .blk g 83 V4 :: L) w → Calls Tryz.prog 35 #[.agg PL.toArray, .agg P0V.toArray, .agg KL.toArray, .int .u8 72] w fun e w' => e = .returned (.agg RV.toArray) ∧ St w0 X (.blk g10 67 KL :: .own 32 (some gB) (some ⟨gB, oB, none⟩) 1 c2 ((b.drop 8).map v8) :: .blk g7 34 NW :: .blk g 83 V4 :: L) w') := Lib.hid (fun w hs => by
   rw [HPL.out, hP0, hKL, hRV, hR1]
   rw [hKL] at hs
   exact resp_st hs v.p A c (prt b 0) hk 72#8 (hr0.out.mono (by intro _ h; simp only [List.mem_cons, h, or_true])) hv.k (prt_len hl.out (by omega : 0 < 1)) hv.a hv.b)
  have CM : Hid (∀ (L' : List At) (g61 : Nat) (t : TypeId) (w : World), St w0 X (.blk g61 t (RV ++ NW) :: L') w → Calls Tryz.prog 29 #[.agg KL.toArray, .slice (some ⟨g61, 0, none⟩) 2 2] w fun e w' => ∃ r2 A2 c2, e = .returned (.slice A2 72 c2) ∧ St w0 X (.own 1 r2 A2 72 c2 ((msg hk [R1, nn]).map v8) :: .blk g61 t (RV ++ NW) :: L') w') := Lib.hid (fun L' g61 t w hs => by
   rw [hKL]
   exact msg_st hs hk [R1, nn] (k := 2) (c := 2) rfl (by omega) (by simp [hR1L, hnn]) (by rw [show [R1, nn].flatten = R1 ++ nn by simp, List.map_append, ← hRV, ← hNW]; exact Reads.blk 0 rfl))
  have ML := Lib.hid (show (msg hk [R1, nn]).length = 72 by rw [msg_len _ [R1, nn] (by simp [hR1L, hnn])]; rfl)
  have SQ := Lib.hid (show ∀ w V, (∀ a ∈ .blk g10 67 KL :: .own 32 (some gB) (some ⟨gB, oB, none⟩) 1 c2 ((b.drop 8).map v8) :: .blk g7 34 NW :: .blk g 83 V :: L, a.holds w) → Blk w g10 KL 67 ∧ Blk w g7 NW 34 by
   intro w V h; exact ⟨h (.blk g10 67 KL) (by simp), h (.blk g7 34 NW) (by simp)⟩)
  have SP := Lib.hid (show ∀ w, (∀ a ∈ .blk g10 67 KL :: .own 32 (some gB) (some ⟨gB, oB, none⟩) 1 c2 ((b.drop 8).map v8) :: .blk g7 34 NW :: .blk g 83 V4 :: L, a.holds w) → Blk w g10 KL 67 ∧ Blk w g7 NW 34 ∧ Rd w (some ⟨gB, oB, none⟩) P0V ∧ Rd w (some ⟨g, 0, none⟩) PL by
   intro w h
   exact ⟨h (.blk g10 67 KL) (by simp), h (.blk g7 34 NW) (by simp), (RB0.out _).cons _ w h, (((RP4.out _).cons _).cons _).cons _ w h⟩)

  have hKH : H2 = KL := by rw [HH2.out, hKL, hhk]
  rw [hKH] at hs
  have hb25 := Lib.hid (show ∀ w : World, (Instr.build 34 #[]).run Tryz.prog w = .ok (.agg NW.toArray) w by rw [hNW, hnn0]; intro w; kernel_rfl)
  clear hKL hNW hV1 hV2 hV3 hV4 hR1 hR1L hRV hP0 hnn hnn0 hhk hKH
  go_upto_region 10 with (first | ((with_reducible refine Se.isL (o := ⟨some 34, _, _, _, _, _⟩) ?_); (refine Se.toL rfl (Se.bd (o := ⟨some 34, _, _, _, _, _⟩) rfl rfl (hb25.out _) ?_))) | ((with_reducible refine Se.isL (o := ⟨none, _, _, _, _, _⟩) ?_); (refine Se.toL rfl (Se.sow 2 hs rfl rfl rfl rfl (NWO.out) ((by rw [NWL.out]; kernel_rfl)) ((by rw [NWL.out, NL.out])) ?_); clear hs; intro w hs; try simp only [List.cons_append, List.nil_append, List.set_cons_zero, List.set_cons_succ] at hs)))
  refine Ch.region' 18 (fun wx => Blk wx g10 KL 67 ∧ Blk wx g7 NW 34) (fun | 8 => true | 11 => true | 14 => true | 17 => true | _ => false) (by kernel_rfl) (by decide +kernel) (SQ.out _ _ hs.drew.hold) ?_
  replace hs := hs.drew
  generalize w.drew = w at hs ⊢
  change Ch.CW _ _ _ _ _ [0, 1, 2, 3, 4, 5, 6, 7, 8, 9, 10, 11, 12, 13, 14, 15, 16, 17] _ _
  iterate 8 ((first | (refine Ch.pure (v := ?_) (by rfl) (by rfl) (by rfl) (fun wx hS => ?_) ?_; rotate_left; (focus (go_simp; (first | done | with_reducible rfl)))) | refine Ch.pure (v := _) (by rfl) (by rfl) (by rfl) (fun wx hS => Se.xla rfl rfl (Li.Rd.of_blk hS.1) (by rw [KLL.out]; kernel_rfl) (by decide +kernel)) ?_ | refine Ch.pure (v := _) (by rfl) (by rfl) (by rfl) (fun wx hS => Se.xla rfl rfl (Li.Rd.of_blk hS.2) (by rw [NWL.out]; kernel_rfl) (by decide +kernel)) ?_); (try simp only [Act.put, List.setIfInBounds_toArray, List.set_cons_zero, List.set_cons_succ]))
  refine Ch.noise (by rfl) (by rfl) (by rfl) (Au.soaq 3 (vs := KL) hs rfl rfl rfl rfl KLO.out (by rw [KLL.out]; kernel_rfl) (by rw [KLL.out, VLL.out]; omega) E1.out ?_)
  clear hs
  intro w hs
  simp only [List.set_cons_zero, List.set_cons_succ] at hs
  refine ⟨SQ.out _ _ hs.hold, ?_⟩
  (try simp only [Act.put, List.setIfInBounds_toArray, List.set_cons_zero, List.set_cons_succ])
  iterate 2 (refine Ch.pure (v := ?_) (by rfl) (by rfl) (by rfl) (fun wx hS => ?_) ?_; rotate_left; (focus (go_simp; (first | done | with_reducible rfl))); (try simp only [Act.put, List.setIfInBounds_toArray, List.set_cons_zero, List.set_cons_succ]))
  refine Ch.noise (by rfl) (by rfl) (by rfl) (Au.soaq 3 (vs := NW) hs rfl rfl rfl rfl NWO.out (by rw [NWL.out]; kernel_rfl) (by rw [NWL.out, L1.out]; omega) E2.out ?_)
  clear hs
  intro w hs
  simp only [List.set_cons_zero, List.set_cons_succ] at hs
  refine ⟨SQ.out _ _ hs.hold, ?_⟩
  (try simp only [Act.put, List.setIfInBounds_toArray, List.set_cons_zero, List.set_cons_succ])
  iterate 2 (refine Ch.pure (v := ?_) (by rfl) (by rfl) (by rfl) (fun wx hS => ?_) ?_; rotate_left; (focus (go_simp; (first | done | with_reducible rfl))); (try simp only [Act.put, List.setIfInBounds_toArray, List.set_cons_zero, List.set_cons_succ]))
  refine Ch.noise (by rfl) (by rfl) (by rfl) (Se.soq 3 (v := .bool true) hs rfl rfl rfl rfl rfl (by kernel_rfl) (by rw [L2.out]; omega) E3.out ?_)
  clear hs
  intro w hs
  simp only [List.set_cons_zero, List.set_cons_succ] at hs
  refine ⟨SQ.out _ _ hs.hold, ?_⟩
  (try simp only [Act.put, List.setIfInBounds_toArray, List.set_cons_zero, List.set_cons_succ])
  iterate 2 (refine Ch.pure (v := ?_) (by rfl) (by rfl) (by rfl) (fun wx hS => ?_) ?_; rotate_left; (focus (go_simp; (first | done | with_reducible rfl))); (try simp only [Act.put, List.setIfInBounds_toArray, List.set_cons_zero, List.set_cons_succ]))
  refine Ch.noise (by rfl) (by rfl) (by rfl) (Se.soq 3 (v := .bool false) hs rfl rfl rfl rfl rfl (by kernel_rfl) (by rw [L3.out]; omega) E4.out ?_)
  clear hs
  intro w hs
  simp only [List.set_cons_zero, List.set_cons_succ] at hs
  refine ⟨SQ.out _ _ hs.hold, ?_⟩
  (try simp only [Act.put, List.setIfInBounds_toArray, List.set_cons_zero, List.set_cons_succ])
  refine Ch.done ?_
  try simp only [List.drop_succ_cons, List.drop_zero]
  go_upto_region 11 with (fail)
  refine Ch.region' 15 (fun wx => Blk wx g10 KL 67 ∧ Blk wx g7 NW 34 ∧ Rd wx (some ⟨gB, oB, none⟩) P0V ∧ Rd wx (some ⟨g, 0, none⟩) PL) (fun | 9 => true | 11 => true | 12 => true | _ => false) (by kernel_rfl) (by decide +kernel) (SP.out _ hs.drew.hold) ?_
  replace hs := hs.drew
  generalize w.drew = w at hs ⊢
  change Ch.CW _ _ _ _ _ [0, 1, 2, 3, 4, 5, 6, 7, 8, 9, 10, 11, 12, 13, 14] _ _
  iterate 9 ((first | (refine Ch.pure (v := ?_) (by rfl) (by rfl) (by rfl) (fun wx hS => ?_) ?_; rotate_left; (focus (go_simp; (first | done | with_reducible rfl)))) | refine Ch.pure (v := _) (by rfl) (by rfl) (by rfl) (fun wx hS => Se.xla rfl rfl (Li.Rd.of_blk hS.1) (by rw [KLL.out]; kernel_rfl) (by decide +kernel)) ?_ | refine Ch.pure (v := _) (by rfl) (by rfl) (by rfl) (fun wx hS => Se.xla rfl rfl hS.2.2.1 (by rw [P0L.out]; kernel_rfl) (by decide +kernel)) ?_ | refine Ch.pure (v := _) (by rfl) (by rfl) (by rfl) (fun wx hS => Se.xla rfl rfl hS.2.2.2 (by rw [PLL.out]; kernel_rfl) (by decide +kernel)) ?_); (try simp only [Act.put, List.setIfInBounds_toArray, List.set_cons_zero, List.set_cons_succ]))
  refine Ch.noise (by rfl) (by rfl) (by rfl) ?_
  refine Se.gcall (f := 35) (args := #[.agg PL.toArray, .agg P0V.toArray, .agg KL.toArray, .int .u8 72]) ?_ ?_
  ·go_simp
  refine Calls.mono (CR.out _ hs) ?_
  clear hs
  rintro e w ⟨rfl, hs⟩
  refine ⟨_, rfl, SP.out _ hs.hold, ?_⟩
  (try simp only [Act.put, List.setIfInBounds_toArray, List.set_cons_zero, List.set_cons_succ])
  iterate 1 ((first | (refine Ch.pure (v := ?_) (by rfl) (by rfl) (by rfl) (fun wx hS => ?_) ?_; rotate_left; (focus (go_simp; (first | done | with_reducible rfl)))) | refine Ch.pure (v := _) (by rfl) (by rfl) (by rfl) (fun wx hS => Se.xla rfl rfl (Li.Rd.of_blk hS.2.1) (by rw [NWL.out]; kernel_rfl) (by decide +kernel)) ?_); (try simp only [Act.put, List.setIfInBounds_toArray, List.set_cons_zero, List.set_cons_succ]))
  refine Ch.noise (by rfl) (by rfl) (by rfl) (Se.bs2 hs rfl Tryz.underlying77 a32I3 (by decide) (by decide) rfl rfl RVL.out NWL.out ?_)
  clear hs
  rintro w g61 - hs
  refine ⟨SP.out _ hs.drop.hold, ?_⟩
  (try simp only [Act.put, List.setIfInBounds_toArray, List.set_cons_zero, List.set_cons_succ])
  refine Ch.noise (by rfl) (by rfl) (by rfl) ?_
  refine Se.gcall (f := 29) (args := #[.agg KL.toArray, .slice (some ⟨g61, 0, none⟩) 2 2]) ?_ ?_
  ·go_simp
  refine Calls.mono (CM.out _ _ _ _ hs) ?_
  clear hs
  rintro e w ⟨r2, A2, c3, rfl, hs⟩
  refine ⟨_, rfl, SP.out _ hs.drop.drop.hold, ?_⟩
  (try simp only [Act.put, List.setIfInBounds_toArray, List.set_cons_zero, List.set_cons_succ])
  iterate 2 (refine Ch.pure (v := ?_) (by rfl) (by rfl) (by rfl) (fun wx hS => ?_) ?_; rotate_left; (focus (go_simp; (first | done | with_reducible rfl))); (try simp only [Act.put, List.setIfInBounds_toArray, List.set_cons_zero, List.set_cons_succ]))
  refine Ch.done ?_
  try simp only [List.drop_succ_cons, List.drop_zero]
  go_wp2_with fail
  go_ret2
  refine ⟨r2, A2, c3, 72, by rw [HR.out]; exact ML.out.symm, by rw [HR.out]; rfl, ?_⟩
  rw [HR.out]
  try simp only
  rw [← HV4.out]
  replace hs := hs.pull 5 rfl
  replace hs := hs.pull 1 rfl
  replace hs := hs.pull 5 rfl
  replace hs := hs.pull 5 rfl
  replace hs := hs.pull 5 rfl
  replace hs := hs.pull 5 rfl
  simp only [List.eraseIdx_cons_succ, List.eraseIdx_cons_zero] at hs
  exact hs.drop.drop.drop.drop
end Au
end Go.Proofs.YtakdoijemopejaaGreat

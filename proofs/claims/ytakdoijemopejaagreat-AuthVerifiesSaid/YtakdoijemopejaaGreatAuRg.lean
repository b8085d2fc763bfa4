/- Layer 38: the reference's Check on values, where the message is one and a challenge is outstanding. No condition but Go's own limits. -/
import Derived.Test.YtakdoijemopejaaGreatAuRf
import Derived.Test.YtakdoijemopejaaGreatAuCalls
import Derived.Test.YtakdoijemopejaaGreatAuNew
set_option linter.unusedSimpArgs false
set_option linter.unusedVariables false
namespace Go.Proofs.YtakdoijemopejaaGreat
open Go Go.RowKit
namespace Au
open Se (St At Reads Cell)
open Li (v8 v8_one Rd Blk Fr)
open Bv (n8 n16 n32 n64)
variable {w0 w : World} {X : List Nat} {L M : List At}
attribute [local irreducible] Calls
theorem put_get {l : Bs} {n : Nat} (hl : l.length = n) (h8 : n ≤ 8) : putL (getL l) n = l := by
 refine getL_inj (by rw [putL_length, hl]) (by rw [putL_length]; exact h8) ?_
 apply BitVec.eq_of_toNat_eq
 rw [getL_putL _ _ h8]
 have := getN_lt l l.length (by omega)
 rw [hl] at this
 exact Nat.mod_eq_of_lt (by unfold getL; rw [hl]; exact this)
theorem put_getW {l : Bs} {n m : Nat} (hl : l.length = n) (h8 : n ≤ 8) (hm : 8 * n ≤ m) (h64 : m ≤ 64) : putL (((getL l).setWidth m).setWidth 64) n = l := by
 have e : ((getL l).setWidth m).setWidth 64 = getL l := by
  apply BitVec.eq_of_toNat_eq
  have := getN_lt l l.length (by omega)
  rw [hl] at this
  have h2 : (getL l).toNat < 2 ^ m := Nat.lt_of_lt_of_le (by unfold getL; rw [hl]; exact this) (Nat.pow_le_pow_right (by omega) hm)
  have h3 : (getL l).toNat < 2 ^ 64 := (getL l).isLt
  rw [BitVec.toNat_setWidth, BitVec.toNat_setWidth, Nat.mod_eq_of_lt h2, Nat.mod_eq_of_lt h3]
 rw [e]
 exact put_get hl h8
/-- The head of bytes is their first eight. -/
theorem headL_hdOf {b : Bs} (h : 8 ≤ b.length) : headL (hdOf b) = b.take 8 := by
 unfold headL hdOf
 simp only
 rw [put_getW (n := 1) (m := 8) (by simp; omega) (by omega) (by omega) (by omega), put_getW (n := 1) (m := 8) (by simp; omega) (by omega) (by omega) (by omega), put_getW (n := 2) (m := 16) (by simp; omega) (by omega) (by omega) (by omega), put_getW (n := 4) (m := 32) (by simp; omega) (by omega) (by omega) (by omega)]
 rw [show List.take 8 b = List.take (1 + (1 + (2 + 4))) b from rfl, List.take_add, List.take_add, List.take_add, List.drop_drop, List.drop_drop]
 simp
theorem headL_inj {a b : Hd} (h : headL a = headL b) : a = b := by
 have h1 := hdOf_msg a []
 have h2 := hdOf_msg b []
 unfold msg at h1 h2
 rw [h] at h1
 rw [← h1, h2]
theorem head_q (h : Hd) : ((headL h).drop 2).take 2 = putL (h.q.setWidth 64) 2 := by
 unfold headL
 simp [putL_length, List.take_append, List.drop_append]
theorem bq {b : Bs} (h : 8 ≤ b.length) : (b.drop 2).take 2 = putL ((hdOf b).q.setWidth 64) 2 := by
 rw [← head_q, headL_hdOf h, List.drop_take, List.take_take]
 simp
theorem putq_inj {q r : BitVec 16} (h : putL (q.setWidth 64) 2 = putL (r.setWidth 64) 2) : q = r := by
 have h1 := congrArg (fun x => (getL x).toNat) h
 simp only [getL_putL _ 2 (by omega : 2 ≤ 8)] at h1
 apply BitVec.eq_of_toNat_eq
 have := q.isLt
 have := r.isLt
 simp only [BitVec.toNat_setWidth] at h1
 omega
theorem q_ne {b : Bs} (h : 8 ≤ b.length) (k : Hd) : decide ((b.drop 2).take 2 ≠ ((headL k).drop 2).take 2) = decide ((hdOf b).q ≠ k.q) := by
 rw [bq h, head_q, Bool.eq_iff_iff]
 simp only [decide_eq_true_eq]
 exact ⟨fun h1 h2 => h1 (by rw [h2]), fun h1 h2 => h1 (putq_inj h2)⟩
theorem rvc_party (v : Vs) (A : Option Addr) (c g : Nat) (T : TypeId) (L : List At) : Reads (.blk g T (rvc v A c) :: L) (some ⟨g, 0, none⟩) (pcl v.p A c) := (Reads.blk (L := .blk g T (rvc v A c) :: L) 0 rfl).take 3
theorem rvc_nonce {v : Vs} (hn : v.n.length = 32) (A : Option Addr) (c g : Nat) (T : TypeId) (L : List At) : Reads (.blk g T (rvc v A c) :: L) (some ⟨g, 5, none⟩) (v.n.map v8) := by
 have h := ((Reads.blk (L := .blk g T (rvc v A c) :: L) 0 rfl).at 5).take 32
 have e : ((rvc v A c).drop 5).take 32 = v.n.map v8 := by
  simp [rvc, pcl, List.take_append, hn]
 rw [e] at h
 simpa using h
theorem cell_app {g i : Nat} {v : Value} (h : Cell L g i v) (M : List At) : Cell (M ++ L) g i v := fun w hw => h w fun a ha => hw a (List.mem_append.2 (.inr ha))
set_option maxRecDepth 100000 in
set_option maxHeartbeats 4000000 in
theorem rchk1_st (hs : St w0 X L w) (v : Vs) (A B : Option Addr) (c n cb : Nat) (hv : v.n.length = 32) (hr : Reads L A (v.p.sec.map v8)) (hk : v.p.sec.length ≤ 1000) (ha : v.p.hs.size ≤ 240) (hb2 : v.p.sb.size ≤ 240) (b : Bs) (hn : n = b.length) (hB : Reads L B (b.map v8)) (hc : n ≤ cb) (hE : parE b 2#8 1#8 2 = 0) (ho : v.o = true) :
  Calls Tryz.prog 16 #[.agg (rvc v A c).toArray, .slice B n cb] w fun e w' => ∃ r B cb, e = .returned (.tuple #[.agg (rvc (checkS v b).1 A c).toArray, .slice B (checkS v b).2.1.length cb, .int .i64 ((checkS v b).2.2 : Nat)]) ∧ St w0 X (.own 1 r B (checkS v b).2.1.length cb ((checkS v b).2.1.map v8) :: L) w' := by
 have hl : b.length = 72 := parE_len hE
 obtain rfl : n = 72 := by omega
 obtain ⟨gB, oB, rfl⟩ : ∃ g o, B = some ⟨g, o, none⟩ := by
  obtain ⟨g, o, h, _⟩ := Rd_cell (hB w hs.hold) 0 (v8_at b 0 (by omega))
  exact ⟨g, o, h⟩
 obtain ⟨R, hR⟩ : ∃ R, R = checkS v b := ⟨_, rfl⟩
 have HR : Hid (R = if (hdOf b).q ≠ v.h.q ∨ (hdOf b).s ≠ v.h.s then ({ v with o := false }, [], 3) else if prt b 0 ≠ resp v.p.py v.n (hdOf b) 72#8 then ({ v with o := false }, [], 10) else ({ v with o := false, d := true }, msg { hdOf b with k := 3#8 } [if (hdOf b).f = 1#8 then resp v.p.py (prt b 1) (hdOf b) 67#8 else z32], 0)) := Lib.hid (by rw [hR]; unfold checkS; rw [if_neg (by simp [hE]), if_neg (by simp [ho])])
 rw [← hR]
 obtain ⟨RV, hRV⟩ : ∃ RV, RV = rvc v A c := ⟨_, rfl⟩
 obtain ⟨R1, hR1⟩ : ∃ R1, R1 = rvc { v with o := false } A c := ⟨_, rfl⟩
 obtain ⟨Z, hZ⟩ : ∃ Z, Z = rvc { p := ⟨[], ⟨#[]⟩, ⟨#[]⟩⟩ } none 0 := ⟨_, rfl⟩
 have aI := Lib.hid rvI
 have ZL := Lib.hid (show Z.length = 39 by rw [hZ]; exact rvc_len rfl _ _)
 rw [← hZ] at aI
 have RL := Lib.hid (show RV.length = 39 by rw [hRV]; exact rvc_len hv _ _)
 have R1L := Lib.hid (show R1.length = 39 by rw [hR1]; exact rvc_len (v := { v with o := false }) hv _ _)
 have R1O := Lib.hid (show ∀ x ∈ R1, x.oneCell' = true by rw [hR1]; exact rvc_one _ _ _)
 have R37 := Lib.hid (show RV[37]? = some (.bool true) by rw [hRV, ← ho]; exact rvc_37 hv _ _)
 have E1 := Lib.hid (show RV.set 37 (.bool false) = R1 by rw [hRV, hR1]; exact rvc_setO hv A c false)
 obtain ⟨q, hq⟩ : ∃ q, q = v.h.q := ⟨_, rfl⟩
 obtain ⟨s, hsq⟩ : ∃ s, s = v.h.s := ⟨_, rfl⟩
 have R14 := Lib.hid (show R1[4]? = some (.int .u16 (n16 q)) by rw [hR1, hq]; rfl)
 have R13 := Lib.hid (show R1[3]? = some (.int .u32 (n32 s)) by rw [hR1, hsq]; rfl)
 have HR1 := Lib.hid hR1
 obtain ⟨HL, hHL⟩ : ∃ HL, HL = headL ⟨0#8, 0#8, q, 0#32⟩ := ⟨_, rfl⟩
 obtain ⟨X1, hX1⟩ : ∃ X1, X1 = (b.drop 2).take 2 := ⟨_, rfl⟩
 obtain ⟨X2, hX2⟩ : ∃ X2, X2 = (HL.drop 2).take 2 := ⟨_, rfl⟩
 have X1L := Lib.hid (show 2 = X1.length by rw [hX1]; simp; omega)
 have X2L := Lib.hid (show 2 = X2.length by rw [hX2, hHL]; simp [headL_len])
 obtain ⟨D1, hD1⟩ : ∃ D1, D1 = decide (X1 ≠ X2) := ⟨_, rfl⟩
 have HD1 := Lib.hid hD1
 have HQ := Lib.hid (show D1 = decide ((hdOf b).q ≠ q) by rw [hD1, hX1, hX2, hHL]; exact q_ne (by omega) _)
 have HB2 := Lib.hid (show Reads L (some ⟨gB, oB + 2, none⟩) (X1.map v8) by rw [hX1, List.map_take, List.map_drop]; exact (hB.at 2).take 2)
 have CC : Hid (∀ (M : List At) (w : World), St w0 X (M ++ L) w → Calls Tryz.prog 31 #[.slice (some ⟨gB, oB, none⟩) 72 cb, .int .u8 2, .int .i64 72] w fun e w' => e = .returned (.int .i64 0) ∧ St w0 X (M ++ L) w') := Lib.hid (fun M w hs => by
  have h := rcheck_st (sz := 72) (np := 2) hs 2#8 hn (hB.app M) (fun _ => hc) (by omega) (by omega) rfl
  rw [show (if (2#8 : BitVec 8) = 1#8 then 0#8 else 1#8) = 1#8 from rfl, hE] at h
  exact h)
 have CW : Hid (∀ (M : List At) (w : World), St w0 X (M ++ L) w → Calls Tryz.prog 32 #[.slice (some ⟨gB, oB, none⟩) 72 cb] w fun e w' => e = .returned (.int .u32 (n32 (hdOf b).s)) ∧ St w0 X (M ++ L) w') := Lib.hid (fun M w hs => rword_st hs hn (hB.app M) (by omega))
 have CP : Hid (∀ (M : List At) (w : World) (i : Nat), i < 2 → St w0 X (M ++ L) w → Calls Tryz.prog 33 #[.slice (some ⟨gB, oB, none⟩) 72 cb, .int .i64 ((8 + 32 * i : Nat) : Int)] w fun e w' => e = .returned (.agg ((prt b i).map v8).toArray) ∧ St w0 X (M ++ L) w') := Lib.hid (fun M w i hi hs => rpart_st (k := 8 + 32 * i) hs hn (hB.app M) (by omega) (by omega))
 have CH : Hid (∀ (L' : List At) (w : World), St w0 X L' w → Calls Tryz.prog 30 #[.int .i64 0, .int .i64 0, .int .u16 (n16 q), .int .u32 0] w fun e w' => ∃ gA oA cA, e = .returned (.slice (some ⟨gA, oA, none⟩) 8 cA) ∧ ((4 : Int) ≤ (cA : Int) ∧ cA ≠ 2 ∧ 2 < cA) ∧ St w0 X (.own 1 (some gA) (some ⟨gA, oA, none⟩) 8 cA (HL.map v8) :: L') w') := Lib.hid (fun L' w hs => by
  rw [hHL]
  refine (rhead_st hs ⟨0#8, 0#8, q, 0#32⟩).mono ?_
  rintro e w' ⟨r, A', c', rfl, hs⟩
  obtain ⟨g, o, rfl, rfl⟩ := hs.own_at 0 rfl (by omega)
  have h8 : 8 ≤ c' := (show Se.Ow w' 1 (some g) (some ⟨g, o, none⟩) 8 c' _ from hs.hold _ List.mem_cons_self).2.1
  exact ⟨g, o, c', rfl, ⟨by omega, by omega, by omega⟩, hs⟩)
 have HX2 := Lib.hid hX2
 have Hq := Lib.hid hq
 have Hs := Lib.hid hsq
 have hcb : Hid (72 ≤ cb) := Lib.hid hc
 rw [← hRV]
 have HF := Lib.hid (hd_f b (by omega))
 have HP := Lib.hid (prt_len (i := 0) (np := 2) hl (by omega))
 have HP1 := Lib.hid (prt_len (i := 1) (np := 2) hl (by omega))
 have HV := Lib.hid hv
 have C1 := Lib.hid (show Cell L gB (oB + 1) (.int .u8 (n8 (hdOf b).f)) by rw [HF.out]; exact hB.cell 1 (v8_at b 1 (by omega)))
 have CR : Hid (∀ (M : List At) (w : World) (N : Bs) (t : Bool), N.length = 32 → St w0 X (M ++ L) w → Calls Tryz.prog 24 #[.agg (pcl v.p A c).toArray, .agg (N.map v8).toArray, .int .u32 (n32 v.h.s), .int .u16 (n16 v.h.q), .bool t] w fun e w' => e = .returned (.agg ((resp v.p.py N ⟨0#8, 0#8, v.h.q, v.h.s⟩ (if t then 67#8 else 72#8)).map v8).toArray) ∧ St w0 X (M ++ L) w') := Lib.hid (fun M w N t hN hs => rresp_st hs v.p A c N v.h.q v.h.s t (hr.app M) hk hN ha hb2)
 clear hE ho hR hRV hR1 hZ hHL hX1 hX2 hD1 hq hsq hl hn hc hB hv hr hk ha hb2
 go_enter Tryz.func16, Tryz.ntmps16
 go_upto_region 7 with (first | ((with_reducible refine Se.isL (o := ⟨some 4, _, _, _, _, _⟩) ?_); (refine Se.toL rfl (Se.al (o := ⟨some 4, _, _, _, _, _⟩) hs rfl (aI.out) ?_); clear hs; rintro w g4 - hs)) | ((with_reducible refine Se.isL (o := ⟨some 16, _, _, _, _, _⟩) ?_); (refine Se.toL rfl (Se.ld (o := ⟨some 16, _, _, _, _, _⟩) hs rfl rfl (Cell.blk 1 rfl R37.out) (by kernel_rfl) ?_))) | ((with_reducible refine Se.isL (o := ⟨none, _, _, _, _, _⟩) ?_); ((first | refine Se.toL rfl (Se.soq 1 (v := .int _ _) hs rfl rfl rfl rfl rfl (by kernel_rfl) ((by rw [RL.out]; omega)) (E1.out) ?_) | refine Se.toL rfl (Se.soq 1 (v := .bool _) hs rfl rfl rfl rfl rfl (by kernel_rfl) ((by rw [RL.out]; omega)) (E1.out) ?_) | refine Se.toL rfl (Se.soq 1 (v := .slice _ _ _) hs rfl rfl rfl rfl rfl (by kernel_rfl) ((by rw [RL.out]; omega)) (E1.out) ?_) | refine Se.toL rfl (Se.soq 1 (v := .pointer _) hs rfl rfl rfl rfl rfl (by kernel_rfl) ((by rw [RL.out]; omega)) (E1.out) ?_) | refine Se.toL rfl (Se.soq 1 (v := .string _) hs rfl rfl rfl rfl rfl (by kernel_rfl) ((by rw [RL.out]; omega)) (E1.out) ?_) | refine Se.toL rfl (Se.soq 1 (v := .map _) hs rfl rfl rfl rfl rfl (by kernel_rfl) ((by rw [RL.out]; omega)) (E1.out) ?_) | refine Se.toL rfl (Se.soq 1 (v := .func _ _ _) hs rfl rfl rfl rfl rfl (by kernel_rfl) ((by rw [RL.out]; omega)) (E1.out) ?_) | refine Se.toL rfl (Se.soq 1 (v := .nilFunc) hs rfl rfl rfl rfl rfl (by kernel_rfl) ((by rw [RL.out]; omega)) (E1.out) ?_)); clear hs; intro w hs; try simp only [List.cons_append, List.nil_append, List.set_cons_zero, List.set_cons_succ] at hs)) | ((first | with_reducible refine Se.ab hs ?_ | with_reducible refine Se.abc hs ?_); clear hs; (first | (generalize w.heap.size = g2; intro w hs))) | (go_at_call 31; refine Calls.mono (CC.out [_, _] _ hs) ?_; clear hs; rintro e w ⟨rfl, hs⟩))
 clear CC E1 R37 RL
 have hcb0 := hcb.out
 have i1 : (4 : Int) ≤ (cb : Int) := by omega
 have i2 : cb ≠ 2 := by omega
 have i3 : 2 < cb := by omega
 clear hcb0
 refine Ch.region' 16 (fun wx => Blk wx g2 R1 36 ∧ Rd wx (some ⟨gB, oB + 2, none⟩) (X1.map v8)) (fun | 5 => true | 7 => true | 11 => true | _ => false) (by kernel_rfl) (by decide +kernel) (⟨hs.drew.hold (.blk g2 36 R1) (by simp), (HB2.out.app [_, _]) _ hs.drew.hold⟩) ?_
 replace hs := hs.drew
 generalize w.drew = w at hs ⊢
 change Ch.CW _ _ _ _ _ [0, 1, 2, 3, 4, 5, 6, 7, 8, 9, 10, 11, 12, 13, 14, 15] _ _
 iterate 2 ((first | (refine Ch.pure (v := ?_) (by rfl) (by rfl) (by rfl) (fun wx hS => ?_) ?_; rotate_left; (focus (go_simp; (first | done | with_reducible rfl))))); (try simp only [Act.put, List.setIfInBounds_toArray, List.set_cons_zero, List.set_cons_succ]))
 refine Ch.pure (v := .string (toS X1)) (by rfl) (by rfl) (by rfl) (fun wx hS => xcs rfl rfl X1L.out hS.2) ?_
 (try simp only [Act.put, List.setIfInBounds_toArray, List.set_cons_zero, List.set_cons_succ])
 iterate 2 ((first | (refine Ch.pure (v := ?_) (by rfl) (by rfl) (by rfl) (fun wx hS => ?_) ?_; rotate_left; (focus (go_simp; (first | done | with_reducible rfl)))) | refine Ch.pure (v := _) (by rfl) (by rfl) (by rfl) (fun wx hS => Se.xl rfl rfl ((hS.1.cell _).trans R14.out) (by decide +kernel)) ?_); (try simp only [Act.put, List.setIfInBounds_toArray, List.set_cons_zero, List.set_cons_succ]))
 refine Ch.noise (by rfl) (by rfl) (by rfl) ?_
 refine Se.gcall (f := 30) (args := #[.int .i64 0, .int .i64 0, .int .u16 (n16 q), .int .u32 0]) ?_ ?_
 ·go_simp
 refine Calls.mono (CH.out _ _ hs) ?_
 clear hs
 rintro e w ⟨gA, oA, cA, rfl, ⟨j1, j2, j3⟩, hs⟩
 refine ⟨_, rfl, ⟨hs.hold (.blk g2 36 R1) (by simp), (HB2.out.app [_, _, _]) _ hs.hold⟩, ?_⟩
 (try simp only [Act.put, List.setIfInBounds_toArray, List.set_cons_zero, List.set_cons_succ])
 iterate 1 ((first | (refine Ch.pure (v := ?_) (by rfl) (by rfl) (by rfl) (fun wx hS => ?_) ?_; rotate_left; (focus (go_simp; (first | done | with_reducible rfl))))); (try simp only [Act.put, List.setIfInBounds_toArray, List.set_cons_zero, List.set_cons_succ]))
 have HX3 := Lib.hid (show ∀ L' : List At, Reads (.own 1 (some gA) (some ⟨gA, oA, none⟩) 8 cA (HL.map v8) :: L') (some ⟨gA, oA + 2, none⟩) (X2.map v8) by
  intro L'
  have h := ((Reads.own (L := .own 1 (some gA) (some ⟨gA, oA, none⟩) 8 cA (HL.map v8) :: L') 0 rfl).at 2).take 2
  rw [← List.map_drop, ← List.map_take] at h
  rw [HX2.out]; exact h)
 refine Ch.noise (by rfl) (by rfl) (by rfl) (gcs hs rfl rfl X2L.out (HX3.out _) ?_)
 refine ⟨⟨hs.hold (.blk g2 36 R1) (by simp), (HB2.out.app [_, _, _]) _ hs.hold⟩, ?_⟩
 (try simp only [Act.put, List.setIfInBounds_toArray, List.set_cons_zero, List.set_cons_succ])
 refine Ch.pure (v := .bool D1) (by rfl) (by rfl) (by rfl) (fun wx hS => xsne rfl rfl rfl HD1.out) ?_
 (try simp only [Act.put, List.setIfInBounds_toArray, List.set_cons_zero, List.set_cons_succ])
 iterate 1 ((first | (refine Ch.pure (v := ?_) (by rfl) (by rfl) (by rfl) (fun wx hS => ?_) ?_; rotate_left; (focus (go_simp; (first | done | with_reducible rfl))))); (try simp only [Act.put, List.setIfInBounds_toArray, List.set_cons_zero, List.set_cons_succ]))
 cases D1 with
 | true =>
  have HR2 := Lib.hid (show R = ({ v with o := false }, [], 3) by rw [HR.out, if_pos (.inl (by rw [← Hq.out]; exact of_decide_eq_true HQ.out.symm))])
  iterate 5 (refine Ch.skip (by rfl) (by rfl) ?_; (try simp only [Act.put, List.setIfInBounds_toArray, List.set_cons_zero, List.set_cons_succ]))
  iterate 1 (refine Ch.pure (v := ?_) (by rfl) (by rfl) (by rfl) (fun wx hS => ?_) ?_; rotate_left; (focus (go_simp; (first | done | with_reducible rfl))); (try simp only [Act.put, List.setIfInBounds_toArray, List.set_cons_zero, List.set_cons_succ]))
  refine Ch.done ?_
  try simp only [List.drop_succ_cons, List.drop_zero]
  clear HX3 HQ HD1
  go_wp2_with (first | ((with_reducible refine Se.isL (o := ⟨some 36, _, _, _, _, _⟩) ?_); (refine Se.toL rfl (Se.ldw (o := ⟨some 36, _, _, _, _, _⟩) hs rfl rfl ((Reads.blk 2 rfl)) ((by rw [R1L.out]; kernel_rfl)) (by kernel_rfl) ?_))) | ((with_reducible refine Se.isL (o := ⟨none, _, _, _, _, _⟩) ?_); (refine Se.toL rfl (Se.sow 1 hs rfl rfl rfl rfl (R1O.out) ((by rw [R1L.out]; kernel_rfl)) ((by rw [R1L.out, ZL.out])) ?_); clear hs; intro w hs; try simp only [List.cons_append, List.nil_append, List.set_cons_zero, List.set_cons_succ] at hs)))
  refine Se.ret hs [.agg R1.toArray, .slice none 0 0, .int .i64 3] rfl ⟨Se.resRow rfl (Reads.blk 1 rfl) (by kernel_rfl) (by rw [R1L.out]; kernel_rfl), rfl, rfl, trivial⟩ (by simp) rfl ?_
  refine ⟨none, none, 0, by rw [HR2.out, HR1.out]; rfl, ?_⟩
  rw [HR2.out]
  exact hs.drop.drop.drop.nil_own 1 none
 | false =>
 have hqq : (hdOf b).q = v.h.q := by rw [← Hq.out]; exact Decidable.not_not.1 (of_decide_eq_false HQ.out.symm)
 by_cases hss : (hdOf b).s = s
 rotate_left
 ·have ds : (n32 (hdOf b).s != n32 s) = true := by rw [n32_bne]; simpa using hss
  have HR2 := Lib.hid (show R = ({ v with o := false }, [], 3) by rw [HR.out, if_pos (.inr (by rw [← Hs.out]; exact hss))])
  clear hqq hss
  iterate 1 ((first | (refine Ch.pure (v := ?_) (by rfl) (by rfl) (by rfl) (fun wx hS => ?_) ?_; rotate_left; (focus (go_simp; (first | done | with_reducible rfl))))); (try simp only [Act.put, List.setIfInBounds_toArray, List.set_cons_zero, List.set_cons_succ]))
  refine Ch.noise (by rfl) (by rfl) (by rfl) ?_
  refine Se.gcall (f := 32) (args := #[.slice (some ⟨gB, oB, none⟩) 72 cb]) ?_ ?_
  ·go_simp
  refine Calls.mono (CW.out [_, _, _] _ hs) ?_
  clear hs
  rintro e w ⟨rfl, hs⟩
  refine ⟨_, rfl, ⟨hs.hold (.blk g2 36 R1) (by simp), (HB2.out.app [_, _, _]) _ hs.hold⟩, ?_⟩
  (try simp only [Act.put, List.setIfInBounds_toArray, List.set_cons_zero, List.set_cons_succ])
  iterate 3 ((first | (refine Ch.pure (v := ?_) (by rfl) (by rfl) (by rfl) (fun wx hS => ?_) ?_; rotate_left; (focus (go_simp; (first | done | with_reducible rfl)))) | refine Ch.pure (v := _) (by rfl) (by rfl) (by rfl) (fun wx hS => Se.xl rfl rfl ((hS.1.cell _).trans R13.out) (by decide +kernel)) ?_); (try simp only [Act.put, List.setIfInBounds_toArray, List.set_cons_zero, List.set_cons_succ]))
  iterate 1 ((first | (refine Ch.pure (v := ?_) (by rfl) (by rfl) (by rfl) (fun wx hS => ?_) ?_; rotate_left; (focus (go_simp; (first | done | with_reducible rfl))))); (try simp only [Act.put, List.setIfInBounds_toArray, List.set_cons_zero, List.set_cons_succ]))
  refine Ch.done ?_
  try simp only [List.drop_succ_cons, List.drop_zero]
  clear HX3 HQ HD1
  go_wp2_with (first | ((with_reducible refine Se.isL (o := ⟨some 36, _, _, _, _, _⟩) ?_); (refine Se.toL rfl (Se.ldw (o := ⟨some 36, _, _, _, _, _⟩) hs rfl rfl ((Reads.blk 2 rfl)) ((by rw [R1L.out]; kernel_rfl)) (by kernel_rfl) ?_))) | ((with_reducible refine Se.isL (o := ⟨none, _, _, _, _, _⟩) ?_); (refine Se.toL rfl (Se.sow 1 hs rfl rfl rfl rfl (R1O.out) ((by rw [R1L.out]; kernel_rfl)) ((by rw [R1L.out, ZL.out])) ?_); clear hs; intro w hs; try simp only [List.cons_append, List.nil_append, List.set_cons_zero, List.set_cons_succ] at hs)))
  refine Se.ret hs [.agg R1.toArray, .slice none 0 0, .int .i64 3] rfl ⟨Se.resRow rfl (Reads.blk 1 rfl) (by kernel_rfl) (by rw [R1L.out]; kernel_rfl), rfl, rfl, trivial⟩ (by simp) rfl ?_
  refine ⟨none, none, 0, by rw [HR2.out, HR1.out]; rfl, ?_⟩
  rw [HR2.out]
  exact hs.drop.drop.drop.nil_own 1 none

 have ds : (n32 (hdOf b).s != n32 s) = false := by rw [n32_bne]; simpa using hss
 have HR2 := Lib.hid (show R = _ by rw [HR.out, if_neg (by rw [← Hs.out]; rintro (h | h); exact h hqq; exact h hss)])
 have HH := Lib.hid (show hdOf b = { hdOf b with q := q, s := s } by rw [Hq.out, ← hqq, ← hss])
 have HQ2 := Lib.hid hqq
 have HS2 := Lib.hid (show (hdOf b).s = v.h.s by rw [hss, Hs.out])
 clear HR
 have HR := HR2
 clear HR2 hss hqq
 iterate 1 ((first | (refine Ch.pure (v := ?_) (by rfl) (by rfl) (by rfl) (fun wx hS => ?_) ?_; rotate_left; (focus (go_simp; (first | done | with_reducible rfl))))); (try simp only [Act.put, List.setIfInBounds_toArray, List.set_cons_zero, List.set_cons_succ]))
 refine Ch.noise (by rfl) (by rfl) (by rfl) ?_
 refine Se.gcall (f := 32) (args := #[.slice (some ⟨gB, oB, none⟩) 72 cb]) ?_ ?_
 ·go_simp
 refine Calls.mono (CW.out [_, _, _] _ hs) ?_
 clear hs
 rintro e w ⟨rfl, hs⟩
 refine ⟨_, rfl, ⟨hs.hold (.blk g2 36 R1) (by simp), (HB2.out.app [_, _, _]) _ hs.hold⟩, ?_⟩
 (try simp only [Act.put, List.setIfInBounds_toArray, List.set_cons_zero, List.set_cons_succ])
 iterate 3 ((first | (refine Ch.pure (v := ?_) (by rfl) (by rfl) (by rfl) (fun wx hS => ?_) ?_; rotate_left; (focus (go_simp; (first | done | with_reducible rfl)))) | refine Ch.pure (v := _) (by rfl) (by rfl) (by rfl) (fun wx hS => Se.xl rfl rfl ((hS.1.cell _).trans R13.out) (by decide +kernel)) ?_); (try simp only [Act.put, List.setIfInBounds_toArray, List.set_cons_zero, List.set_cons_succ]))
 iterate 1 ((first | (refine Ch.pure (v := ?_) (by rfl) (by rfl) (by rfl) (fun wx hS => ?_) ?_; rotate_left; (focus (go_simp; (first | done | with_reducible rfl))))); (try simp only [Act.put, List.setIfInBounds_toArray, List.set_cons_zero, List.set_cons_succ]))
 refine Ch.done ?_
 try simp only [List.drop_succ_cons, List.drop_zero]
 clear HX3 HQ HD1 CW CH ds
 replace hs := hs.drop
 obtain ⟨P0V, hP0⟩ : ∃ P0V, P0V = (prt b 0).map v8 := ⟨_, rfl⟩
 obtain ⟨RQ, hRQ⟩ : ∃ RQ, RQ = (resp v.p.py v.n (hdOf b) 72#8).map v8 := ⟨_, rfl⟩
 obtain ⟨D2, hD2⟩ : ∃ D2, D2 = decide (prt b 0 ≠ resp v.p.py v.n (hdOf b) 72#8) := ⟨_, rfl⟩
 obtain ⟨NV, hNV⟩ : ∃ NV, NV = v.n.map v8 := ⟨_, rfl⟩
 obtain ⟨PL, hPL⟩ : ∃ PL, PL = pcl v.p A c := ⟨_, rfl⟩
 have PLL := Lib.hid (show PL.length = 3 by rw [hPL]; rfl)
 have NL := Lib.hid (show NV.length = 32 by rw [hNV]; simpa using HV.out)
 have RP1 := Lib.hid (show ∀ L g, Reads (.blk g 36 R1 :: L) (some ⟨g, 0, none⟩) PL by intro L g; rw [HR1.out, hPL]; exact rvc_party { v with o := false } A c g _ L)
 have RN1 := Lib.hid (show ∀ L g, Reads (.blk g 36 R1 :: L) (some ⟨g, 5, none⟩) NV by intro L g; rw [HR1.out, hNV]; exact rvc_nonce (v := { v with o := false }) HV.out A c g _ L)
 have hne : ∀ w, (binOp .neq 34 (.agg P0V.toArray) (.agg RQ.toArray)).run Tryz.prog w = .ok (.bool D2) w := by
  intro w; rw [hP0, hRQ, hD2]; exact neB w HP.out (resp_len _ _ _ _)
 have CP0 : Hid (∀ (M : List At) (w : World), St w0 X (M ++ L) w → Calls Tryz.prog 33 #[.slice (some ⟨gB, oB, none⟩) 72 cb, .int .i64 8] w fun e w' => e = .returned (.agg P0V.toArray) ∧ St w0 X (M ++ L) w') := Lib.hid (fun M w hs => by rw [hP0]; exact CP.out M w 0 (by omega) hs)
 have CR0 : Hid (∀ (M : List At) (w : World), St w0 X (M ++ L) w → Calls Tryz.prog 24 #[.agg PL.toArray, .agg NV.toArray, .int .u32 (n32 s), .int .u16 (n16 q), .bool false] w fun e w' => e = .returned (.agg RQ.toArray) ∧ St w0 X (M ++ L) w') := Lib.hid (fun M w hs => by
  rw [hPL, hNV, hRQ, Hq.out, Hs.out, show resp v.p.py v.n (hdOf b) 72#8 = resp v.p.py v.n ⟨0#8, 0#8, v.h.q, v.h.s⟩ 72#8 from resp_eq _ _ HS2.out HQ2.out]
  exact CR.out M w v.n false HV.out hs)
 have HD2 := Lib.hid hD2
 have HPL := Lib.hid hPL
 clear hP0 hRQ hD2 hNV hPL
 go_upto_region 9 with (fail)
 refine Ch.region' 12 (fun wx => Blk wx g2 R1 36 ∧ Rd wx (some ⟨g2, 0, none⟩) PL ∧ Rd wx (some ⟨g2, 5, none⟩) NV) (fun | 1 => true | 10 => true | _ => false) (by kernel_rfl) (by decide +kernel) (⟨hs.drew.hold (.blk g2 36 R1) (by simp), ((RP1.out _ _).app [_]) _ hs.drew.hold, ((RN1.out _ _).app [_]) _ hs.drew.hold⟩) ?_
 replace hs := hs.drew
 generalize w.drew = w at hs ⊢
 change Ch.CW _ _ _ _ _ [0, 1, 2, 3, 4, 5, 6, 7, 8, 9, 10, 11] _ _
 iterate 1 ((first | (refine Ch.pure (v := ?_) (by rfl) (by rfl) (by rfl) (fun wx hS => ?_) ?_; rotate_left; (focus (go_simp; (first | done | with_reducible rfl))))); (try simp only [Act.put, List.setIfInBounds_toArray, List.set_cons_zero, List.set_cons_succ]))
 refine Ch.noise (by rfl) (by rfl) (by rfl) ?_
 refine Se.gcall (f := 33) (args := #[.slice (some ⟨gB, oB, none⟩) 72 cb, .int .i64 8]) ?_ ?_
 ·go_simp
 refine Calls.mono (CP0.out [_, _] _ hs) ?_
 clear hs
 rintro e w ⟨rfl, hs⟩
 refine ⟨_, rfl, ⟨hs.hold (.blk g2 36 R1) (by simp), ((RP1.out _ _).app [_]) _ hs.hold, ((RN1.out _ _).app [_]) _ hs.hold⟩, ?_⟩
 (try simp only [Act.put, List.setIfInBounds_toArray, List.set_cons_zero, List.set_cons_succ])
 iterate 8 ((first | (refine Ch.pure (v := ?_) (by rfl) (by rfl) (by rfl) (fun wx hS => ?_) ?_; rotate_left; (focus (go_simp; (first | done | with_reducible rfl)))) | refine Ch.pure (v := _) (by rfl) (by rfl) (by rfl) (fun wx hS => Se.xla rfl rfl hS.2.1 (by rw [PLL.out]; kernel_rfl) (by decide +kernel)) ?_ | refine Ch.pure (v := _) (by rfl) (by rfl) (by rfl) (fun wx hS => Se.xla rfl rfl hS.2.2 (by rw [NL.out]; kernel_rfl) (by decide +kernel)) ?_ | refine Ch.pure (v := _) (by rfl) (by rfl) (by rfl) (fun wx hS => Se.xl rfl rfl ((hS.1.cell _).trans R13.out) (by decide +kernel)) ?_ | refine Ch.pure (v := _) (by rfl) (by rfl) (by rfl) (fun wx hS => Se.xl rfl rfl ((hS.1.cell _).trans R14.out) (by decide +kernel)) ?_); (try simp only [Act.put, List.setIfInBounds_toArray, List.set_cons_zero, List.set_cons_succ]))
 refine Ch.noise (by rfl) (by rfl) (by rfl) ?_
 refine Se.gcall (f := 24) (args := #[.agg PL.toArray, .agg NV.toArray, .int .u32 (n32 s), .int .u16 (n16 q), .bool false]) ?_ ?_
 ·go_simp
 refine Calls.mono (CR0.out [_, _] _ hs) ?_
 clear hs
 rintro e w ⟨rfl, hs⟩
 refine ⟨_, rfl, ⟨hs.hold (.blk g2 36 R1) (by simp), ((RP1.out _ _).app [_]) _ hs.hold, ((RN1.out _ _).app [_]) _ hs.hold⟩, ?_⟩
 (try simp only [Act.put, List.setIfInBounds_toArray, List.set_cons_zero, List.set_cons_succ])
 iterate 1 (refine Ch.pure (v := ?_) (by rfl) (by rfl) (by rfl) (fun wx hS => ?_) ?_; rotate_left; (focus (go_simp; (first | done | with_reducible rfl))); (try simp only [Act.put, List.setIfInBounds_toArray, List.set_cons_zero, List.set_cons_succ]))
 refine Ch.done ?_
 try simp only [List.drop_succ_cons, List.drop_zero]
 clear CP0 CR0 hne RN1
 cases D2 with
 | true =>
  have HR2 := Lib.hid (show R = ({ v with o := false }, [], 10) by rw [HR.out, if_pos (of_decide_eq_true HD2.out.symm)])
  go_wp2_with (first | ((with_reducible refine Se.isL (o := ⟨some 49, _, _, _, _, _⟩) ?_); (refine Se.toL rfl (Se.ldw (o := ⟨some 49, _, _, _, _, _⟩) hs rfl rfl ((Reads.blk 1 rfl)) ((by rw [R1L.out]; kernel_rfl)) (by kernel_rfl) ?_))) | ((with_reducible refine Se.isL (o := ⟨none, _, _, _, _, _⟩) ?_); (refine Se.toL rfl (Se.sow 0 hs rfl rfl rfl rfl (R1O.out) ((by rw [R1L.out]; kernel_rfl)) ((by rw [R1L.out, ZL.out])) ?_); clear hs; intro w hs; try simp only [List.cons_append, List.nil_append, List.set_cons_zero] at hs)))
  refine Se.ret hs [.agg R1.toArray, .slice none 0 0, .int .i64 10] rfl ⟨Se.resRow rfl (Reads.blk 0 rfl) (by kernel_rfl) (by rw [R1L.out]; kernel_rfl), rfl, rfl, trivial⟩ (by simp) rfl ?_
  refine ⟨none, none, 0, by rw [HR2.out, HR1.out]; rfl, ?_⟩
  rw [HR2.out]
  exact hs.drop.drop.nil_own 1 none
 | false =>
 have HR2 := Lib.hid (show R = _ by rw [HR.out, if_neg (of_decide_eq_false HD2.out.symm)])
 clear HR HD2
 have HR := HR2
 clear HR2
 obtain ⟨R2, hR2⟩ : ∃ R2, R2 = rvc { v with o := false, d := true } A c := ⟨_, rfl⟩
 have E2 := Lib.hid (show R1.set 38 (.bool true) = R2 by rw [HR1.out, hR2]; exact rvc_setD (v := { v with o := false }) HV.out A c true)
 have R2L := Lib.hid (show R2.length = 39 by rw [hR2]; exact rvc_len (v := { v with o := false, d := true }) HV.out _ _)
 have R2O := Lib.hid (show ∀ x ∈ R2, x.oneCell' = true by rw [hR2]; exact rvc_one _ _ _)
 have R24 := Lib.hid (show R2[4]? = some (.int .u16 (n16 q)) by rw [hR2, Hq.out]; rfl)
 have R23 := Lib.hid (show R2[3]? = some (.int .u32 (n32 s)) by rw [hR2, Hs.out]; rfl)
 have RP2 := Lib.hid (show ∀ L g, Reads (.blk g 36 R2 :: L) (some ⟨g, 0, none⟩) PL by intro L g; rw [hR2, HPL.out]; exact rvc_party { v with o := false, d := true } A c g _ L)
 have HR2 := Lib.hid hR2
 obtain ⟨ZB, hZB⟩ : ∃ ZB, ZB = z32.map v8 := ⟨_, rfl⟩
 have aJ := Lib.hid a32J
 rw [← hZB] at aJ
 have ZBL := Lib.hid (show ZB.length = 32 by rw [hZB]; rfl)
 have HZB := Lib.hid hZB
 obtain ⟨f, hf⟩ : ∃ f, f = (hdOf b).f := ⟨_, rfl⟩
 rw [← hf] at C1
 obtain ⟨AV, hAV⟩ : ∃ AV : Bs, AV = if f = 1#8 then resp v.p.py (prt b 1) (hdOf b) 67#8 else z32 := ⟨_, rfl⟩
 have hAL : AV.length = 32 := by rw [hAV]; split; exact resp_len _ _ _ _; rfl
 obtain ⟨AW, hAW⟩ : ∃ AW, AW = AV.map v8 := ⟨_, rfl⟩
 have AL := Lib.hid (show AW.length = 32 by rw [hAW]; simpa using hAL)
 have AO := Lib.hid (show ∀ x ∈ AW, x.oneCell' = true by rw [hAW]; exact v8_one _)
 have AZ := Lib.hid (show f ≠ 1#8 → ZB = AW by intro h; rw [hZB, hAW, hAV, if_neg h])
 obtain ⟨HL2, hHL2⟩ : ∃ HL2, HL2 = headL ⟨3#8, f, q, s⟩ := ⟨_, rfl⟩
 have HH3 : { hdOf b with k := 3#8 } = (⟨3#8, f, q, s⟩ : Hd) := by rw [Hq.out, Hs.out, ← HQ2.out, ← HS2.out, hf]
 have HM := Lib.hid (show HL2.map v8 ++ AW = (msg ⟨3#8, f, q, s⟩ [AV]).map v8 by rw [hHL2, hAW]; simp [msg])
 have ML := Lib.hid (show (msg ⟨3#8, f, q, s⟩ [AV]).length = 8 + 32 by unfold msg; simp [headL_len, hAL])
 have HRn := Lib.hid (show R = ({ v with o := false, d := true }, msg ⟨3#8, f, q, s⟩ [AV], 0) by rw [HR.out, HH3, hAV, hf])
 have hwf : IntKind.i64.wrap (n8 f) = n8 f := by have := f.isLt; unfold n8; simp [IntKind.wrap, IntKind.bits, IntKind.signed]; omega
 have CH : Hid (∀ (L' : List At) (w : World), St w0 X L' w → Calls Tryz.prog 30 #[.int .i64 3, .int .i64 (n8 f), .int .u16 (n16 q), .int .u32 (n32 s)] w fun e w' => ∃ r A c, e = .returned (.slice A 8 c) ∧ St w0 X (.own 1 r A 8 c (HL2.map v8) :: L') w') := Lib.hid (fun L' w hs => by rw [hHL2]; exact rhead_st hs ⟨3#8, f, q, s⟩)
 obtain ⟨P1V, hP1⟩ : ∃ P1V, P1V = (prt b 1).map v8 := ⟨_, rfl⟩
 have CP1 : Hid (∀ (M : List At) (w : World), St w0 X (M ++ L) w → Calls Tryz.prog 33 #[.slice (some ⟨gB, oB, none⟩) 72 cb, .int .i64 40] w fun e w' => e = .returned (.agg P1V.toArray) ∧ St w0 X (M ++ L) w') := Lib.hid (fun M w hs => by rw [hP1]; exact CP.out M w 1 (by omega) hs)
 have CR1 : Hid (f = 1#8 → ∀ (M : List At) (w : World), St w0 X (M ++ L) w → Calls Tryz.prog 24 #[.agg PL.toArray, .agg P1V.toArray, .int .u32 (n32 s), .int .u16 (n16 q), .bool true] w fun e w' => e = .returned (.agg AW.toArray) ∧ St w0 X (M ++ L) w') := Lib.hid (fun h M w hs => by
  rw [HPL.out, hP1, hAW, hAV, if_pos h, Hq.out, Hs.out, show resp v.p.py (prt b 1) (hdOf b) 67#8 = resp v.p.py (prt b 1) ⟨0#8, 0#8, v.h.q, v.h.s⟩ 67#8 from resp_eq _ _ HS2.out HQ2.out]
  exact CR.out M w (prt b 1) true HP1.out hs)
 clear HR
 have HR := HRn
 clear HRn
 clear hR2 hZB hf hAV hAL hAW hHL2 HH3 hP1 CR CP R13 R14 RP1
 by_cases hf1 : f = 1#8
 ·have d1 : (n8 f == 1) = true := by rw [hf1]; rfl
  have CR2 := Lib.hid (CR1.out hf1)
  clear hf1 CR1 AZ
  go_upto_region 14 with (first | ((with_reducible refine Se.isL (o := ⟨none, _, _, _, _, _⟩) ?_); ((first | refine Se.toL rfl (Se.soq 1 (v := .int _ _) hs rfl rfl rfl rfl rfl (by kernel_rfl) ((by rw [R1L.out]; omega)) (E2.out) ?_) | refine Se.toL rfl (Se.soq 1 (v := .bool _) hs rfl rfl rfl rfl rfl (by kernel_rfl) ((by rw [R1L.out]; omega)) (E2.out) ?_) | refine Se.toL rfl (Se.soq 1 (v := .slice _ _ _) hs rfl rfl rfl rfl rfl (by kernel_rfl) ((by rw [R1L.out]; omega)) (E2.out) ?_) | refine Se.toL rfl (Se.soq 1 (v := .pointer _) hs rfl rfl rfl rfl rfl (by kernel_rfl) ((by rw [R1L.out]; omega)) (E2.out) ?_) | refine Se.toL rfl (Se.soq 1 (v := .string _) hs rfl rfl rfl rfl rfl (by kernel_rfl) ((by rw [R1L.out]; omega)) (E2.out) ?_) | refine Se.toL rfl (Se.soq 1 (v := .map _) hs rfl rfl rfl rfl rfl (by kernel_rfl) ((by rw [R1L.out]; omega)) (E2.out) ?_) | refine Se.toL rfl (Se.soq 1 (v := .func _ _ _) hs rfl rfl rfl rfl rfl (by kernel_rfl) ((by rw [R1L.out]; omega)) (E2.out) ?_) | refine Se.toL rfl (Se.soq 1 (v := .nilFunc) hs rfl rfl rfl rfl rfl (by kernel_rfl) ((by rw [R1L.out]; omega)) (E2.out) ?_)); clear hs; intro w hs; try simp only [List.cons_append, List.nil_append, List.set_cons_zero, List.set_cons_succ] at hs)) | ((with_reducible refine Se.isL (o := ⟨some 8, _, _, _, _, _⟩) ?_); (refine Se.toL rfl (Se.al (o := ⟨some 8, _, _, _, _, _⟩) hs rfl (aJ.out) ?_); clear hs; rintro w g8 - hs)) | ((with_reducible refine Se.isL (o := ⟨some 53, _, _, _, _, _⟩) ?_); (refine Se.toL rfl (Se.ld (o := ⟨some 53, _, _, _, _, _⟩) hs rfl rfl ((cell_app C1.out [_, _, _])) (by kernel_rfl) ?_))))
  refine Ch.region' 10 (fun wx => Blk wx g2 R2 36 ∧ Rd wx (some ⟨g2, 0, none⟩) PL) (fun | 3 => true | 8 => true | 9 => true | _ => false) (by kernel_rfl) (by decide +kernel) (⟨hs.drew.hold (.blk g2 36 R2) (by simp), ((RP2.out _ _).app [_, _]) _ hs.drew.hold⟩) ?_
  replace hs := hs.drew
  generalize w.drew = w at hs ⊢
  change Ch.CW _ _ _ _ _ [0, 1, 2, 3, 4, 5, 6, 7, 8, 9] _ _
  iterate 3 ((first | (refine Ch.pure (v := ?_) (by rfl) (by rfl) (by rfl) (fun wx hS => ?_) ?_; rotate_left; (focus (go_simp; (first | done | with_reducible rfl)))) | refine Ch.pure (v := _) (by rfl) (by rfl) (by rfl) (fun wx hS => Se.xla rfl rfl hS.2 (by rw [PLL.out]; kernel_rfl) (by decide +kernel)) ?_); (try simp only [Act.put, List.setIfInBounds_toArray, List.set_cons_zero, List.set_cons_succ]))
  refine Ch.noise (by rfl) (by rfl) (by rfl) ?_
  refine Se.gcall (f := 33) (args := #[.slice (some ⟨gB, oB, none⟩) 72 cb, .int .i64 40]) ?_ ?_
  ·go_simp
  refine Calls.mono (CP1.out [_, _, _] _ hs) ?_
  clear hs
  rintro e w ⟨rfl, hs⟩
  refine ⟨_, rfl, ⟨hs.hold (.blk g2 36 R2) (by simp), ((RP2.out _ _).app [_, _]) _ hs.hold⟩, ?_⟩
  (try simp only [Act.put, List.setIfInBounds_toArray, List.set_cons_zero, List.set_cons_succ])
  iterate 4 ((first | (refine Ch.pure (v := ?_) (by rfl) (by rfl) (by rfl) (fun wx hS => ?_) ?_; rotate_left; (focus (go_simp; (first | done | with_reducible rfl)))) | refine Ch.pure (v := _) (by rfl) (by rfl) (by rfl) (fun wx hS => Se.xl rfl rfl ((hS.1.cell _).trans R23.out) (by decide +kernel)) ?_ | refine Ch.pure (v := _) (by rfl) (by rfl) (by rfl) (fun wx hS => Se.xl rfl rfl ((hS.1.cell _).trans R24.out) (by decide +kernel)) ?_); (try simp only [Act.put, List.setIfInBounds_toArray, List.set_cons_zero, List.set_cons_succ]))
  refine Ch.noise (by rfl) (by rfl) (by rfl) ?_
  refine Se.gcall (f := 24) (args := #[.agg PL.toArray, .agg P1V.toArray, .int .u32 (n32 s), .int .u16 (n16 q), .bool true]) ?_ ?_
  ·go_simp
  refine Calls.mono (CR2.out [_, _, _] _ hs) ?_
  clear hs
  rintro e w ⟨rfl, hs⟩
  refine ⟨_, rfl, ⟨hs.hold (.blk g2 36 R2) (by simp), ((RP2.out _ _).app [_, _]) _ hs.hold⟩, ?_⟩
  (try simp only [Act.put, List.setIfInBounds_toArray, List.set_cons_zero, List.set_cons_succ])
  refine Ch.noise (by rfl) (by rfl) (by rfl) (Se.sow 0 (vs := AW) hs rfl rfl rfl rfl AO.out (by rw [AL.out]; kernel_rfl) (by rw [AL.out, ZBL.out]) ?_)
  clear hs
  intro w hs
  try simp only [List.set_cons_zero, List.set_cons_succ] at hs
  refine ⟨⟨hs.hold (.blk g2 36 R2) (by simp), ((RP2.out _ _).app [_, _]) _ hs.hold⟩, ?_⟩
  (try simp only [Act.put, List.setIfInBounds_toArray, List.set_cons_zero, List.set_cons_succ])
  refine Ch.done ?_
  try simp only [List.drop_succ_cons, List.drop_zero]
  clear CP1 CR2
  go_upto_region 15 with (fail)
  refine Ch.region' 15 (fun wx => Blk wx g2 R2 36 ∧ wx.cell? ⟨gB, oB + 1, none⟩ = some (.int .u8 (n8 f))) (fun | 9 => true | 11 => true | 12 => true | _ => false) (by kernel_rfl) (by decide +kernel) (⟨hs.drew.hold (.blk g2 36 R2) (by simp), (cell_app C1.out [_, _, _]) _ hs.drew.hold⟩) ?_
  replace hs := hs.drew
  generalize w.drew = w at hs ⊢
  change Ch.CW _ _ _ _ _ [0, 1, 2, 3, 4, 5, 6, 7, 8, 9, 10, 11, 12, 13, 14] _ _
  iterate 9 ((first | (refine Ch.pure (v := ?_) (by rfl) (by rfl) (by rfl) (fun wx hS => ?_) ?_; rotate_left; (focus (go_simp; (first | done | with_reducible rfl)))) | refine Ch.pure (v := _) (by rfl) (by rfl) (by rfl) (fun wx hS => Se.xla rfl rfl (Li.Rd.of_blk hS.1) (by rw [R2L.out]; kernel_rfl) (by decide +kernel)) ?_ | refine Ch.pure (v := _) (by rfl) (by rfl) (by rfl) (fun wx hS => Se.xl rfl rfl hS.2 (by decide +kernel)) ?_ | refine Ch.pure (v := _) (by rfl) (by rfl) (by rfl) (fun wx hS => Se.xl rfl rfl ((hS.1.cell _).trans R23.out) (by decide +kernel)) ?_ | refine Ch.pure (v := _) (by rfl) (by rfl) (by rfl) (fun wx hS => Se.xl rfl rfl ((hS.1.cell _).trans R24.out) (by decide +kernel)) ?_); (try simp only [Act.put, List.setIfInBounds_toArray, List.set_cons_zero, List.set_cons_succ]))
  refine Ch.noise (by rfl) (by rfl) (by rfl) ?_
  refine Se.gcall (f := 30) (args := #[.int .i64 3, .int .i64 (n8 f), .int .u16 (n16 q), .int .u32 (n32 s)]) ?_ ?_
  ·go_simp
  refine Calls.mono (CH.out _ _ hs) ?_
  clear hs
  rintro e w ⟨r, B3, cb3, rfl, hs⟩
  refine ⟨_, rfl, ⟨hs.hold (.blk g2 36 R2) (by simp), (cell_app C1.out [_, _, _, _]) _ hs.hold⟩, ?_⟩
  (try simp only [Act.put, List.setIfInBounds_toArray, List.set_cons_zero, List.set_cons_succ])
  iterate 1 (refine Ch.pure (v := ?_) (by rfl) (by rfl) (by rfl) (fun wx hS => ?_) ?_; rotate_left; (focus (go_simp; (first | done | with_reducible rfl))); (try simp only [Act.put, List.setIfInBounds_toArray, List.set_cons_zero, List.set_cons_succ]))
  refine Ch.noise (by rfl) (by rfl) (by rfl) (Se.ap 0 hs rfl rfl rfl rfl (Reads.blk 1 rfl) Tryz.underlying22 u8i3 rfl (by decide) AO.out (by rw [AL.out]) (by omega) (by omega) ?_)
  clear hs
  rintro w r2 B2 c2 hs
  simp only [List.set_cons_zero] at hs
  refine ⟨⟨hs.hold (.blk g2 36 R2) (by simp), (cell_app C1.out [_, _, _, _]) _ hs.hold⟩, ?_⟩
  (try simp only [Act.put, List.setIfInBounds_toArray, List.set_cons_zero, List.set_cons_succ])
  refine Ch.noise (by rfl) (by rfl) (by rfl) (Se.sow 2 (vs := R2) hs rfl rfl rfl rfl R2O.out (by rw [R2L.out]; kernel_rfl) (by rw [R2L.out, ZL.out]) ?_)
  clear hs
  intro w hs
  try simp only [List.set_cons_zero, List.set_cons_succ] at hs
  refine ⟨⟨hs.hold (.blk g2 36 R2) (by simp), (cell_app C1.out [_, _, _, _]) _ hs.hold⟩, ?_⟩
  (try simp only [Act.put, List.setIfInBounds_toArray, List.set_cons_zero, List.set_cons_succ])
  iterate 2 (refine Ch.pure (v := ?_) (by rfl) (by rfl) (by rfl) (fun wx hS => ?_) ?_; rotate_left; (focus (go_simp; (first | done | with_reducible rfl))); (try simp only [Act.put, List.setIfInBounds_toArray, List.set_cons_zero, List.set_cons_succ]))
  refine Ch.done ?_
  try simp only [List.drop_succ_cons, List.drop_zero]
  go_wp2_with fail
  refine Se.ret hs [.agg R2.toArray, .slice B2 (8 + 32) c2, .int .i64 0] rfl ⟨Se.resRow rfl (Reads.blk 2 rfl) (by kernel_rfl) (by rw [R2L.out]; kernel_rfl), rfl, rfl, trivial⟩ (by simp) rfl ?_
  replace hs := hs.pull 0 rfl
  replace hs := hs.pull 3 rfl
  replace hs := hs.pull 3 rfl
  replace hs := hs.pull 3 rfl
  simp only [List.eraseIdx_cons_succ, List.eraseIdx_cons_zero] at hs
  refine ⟨r2, B2, c2, by rw [HR.out, HR2.out]; simp only [ML.out]; rfl, ?_⟩
  rw [HR.out]
  simp only [ML.out]
  rw [← HM.out]
  exact hs.drop.drop.drop
 ·have d1 : (n8 f == 1) = false := by rw [show (1 : Int) = n8 1#8 from rfl, Bv.n8_beq]; simpa using hf1
  have hzz := AZ.out hf1
  rw [hzz] at aJ
  clear hf1 CR1 AZ CP1 hzz
  go_upto_region 15 with (first | ((with_reducible refine Se.isL (o := ⟨none, _, _, _, _, _⟩) ?_); ((first | refine Se.toL rfl (Se.soq 1 (v := .int _ _) hs rfl rfl rfl rfl rfl (by kernel_rfl) ((by rw [R1L.out]; omega)) (E2.out) ?_) | refine Se.toL rfl (Se.soq 1 (v := .bool _) hs rfl rfl rfl rfl rfl (by kernel_rfl) ((by rw [R1L.out]; omega)) (E2.out) ?_) | refine Se.toL rfl (Se.soq 1 (v := .slice _ _ _) hs rfl rfl rfl rfl rfl (by kernel_rfl) ((by rw [R1L.out]; omega)) (E2.out) ?_) | refine Se.toL rfl (Se.soq 1 (v := .pointer _) hs rfl rfl rfl rfl rfl (by kernel_rfl) ((by rw [R1L.out]; omega)) (E2.out) ?_) | refine Se.toL rfl (Se.soq 1 (v := .string _) hs rfl rfl rfl rfl rfl (by kernel_rfl) ((by rw [R1L.out]; omega)) (E2.out) ?_) | refine Se.toL rfl (Se.soq 1 (v := .map _) hs rfl rfl rfl rfl rfl (by kernel_rfl) ((by rw [R1L.out]; omega)) (E2.out) ?_) | refine Se.toL rfl (Se.soq 1 (v := .func _ _ _) hs rfl rfl rfl rfl rfl (by kernel_rfl) ((by rw [R1L.out]; omega)) (E2.out) ?_) | refine Se.toL rfl (Se.soq 1 (v := .nilFunc) hs rfl rfl rfl rfl rfl (by kernel_rfl) ((by rw [R1L.out]; omega)) (E2.out) ?_)); clear hs; intro w hs; try simp only [List.cons_append, List.nil_append, List.set_cons_zero, List.set_cons_succ] at hs)) | ((with_reducible refine Se.isL (o := ⟨some 8, _, _, _, _, _⟩) ?_); (refine Se.toL rfl (Se.al (o := ⟨some 8, _, _, _, _, _⟩) hs rfl (aJ.out) ?_); clear hs; rintro w g8 - hs)) | ((with_reducible refine Se.isL (o := ⟨some 53, _, _, _, _, _⟩) ?_); (refine Se.toL rfl (Se.ld (o := ⟨some 53, _, _, _, _, _⟩) hs rfl rfl ((cell_app C1.out [_, _, _])) (by kernel_rfl) ?_))))
  refine Ch.region' 15 (fun wx => Blk wx g2 R2 36 ∧ wx.cell? ⟨gB, oB + 1, none⟩ = some (.int .u8 (n8 f))) (fun | 9 => true | 11 => true | 12 => true | _ => false) (by kernel_rfl) (by decide +kernel) (⟨hs.drew.hold (.blk g2 36 R2) (by simp), (cell_app C1.out [_, _, _]) _ hs.drew.hold⟩) ?_
  replace hs := hs.drew
  generalize w.drew = w at hs ⊢
  change Ch.CW _ _ _ _ _ [0, 1, 2, 3, 4, 5, 6, 7, 8, 9, 10, 11, 12, 13, 14] _ _
  iterate 9 ((first | (refine Ch.pure (v := ?_) (by rfl) (by rfl) (by rfl) (fun wx hS => ?_) ?_; rotate_left; (focus (go_simp; (first | done | with_reducible rfl)))) | refine Ch.pure (v := _) (by rfl) (by rfl) (by rfl) (fun wx hS => Se.xla rfl rfl (Li.Rd.of_blk hS.1) (by rw [R2L.out]; kernel_rfl) (by decide +kernel)) ?_ | refine Ch.pure (v := _) (by rfl) (by rfl) (by rfl) (fun wx hS => Se.xl rfl rfl hS.2 (by decide +kernel)) ?_ | refine Ch.pure (v := _) (by rfl) (by rfl) (by rfl) (fun wx hS => Se.xl rfl rfl ((hS.1.cell _).trans R23.out) (by decide +kernel)) ?_ | refine Ch.pure (v := _) (by rfl) (by rfl) (by rfl) (fun wx hS => Se.xl rfl rfl ((hS.1.cell _).trans R24.out) (by decide +kernel)) ?_); (try simp only [Act.put, List.setIfInBounds_toArray, List.set_cons_zero, List.set_cons_succ]))
  refine Ch.noise (by rfl) (by rfl) (by rfl) ?_
  refine Se.gcall (f := 30) (args := #[.int .i64 3, .int .i64 (n8 f), .int .u16 (n16 q), .int .u32 (n32 s)]) ?_ ?_
  ·go_simp
  refine Calls.mono (CH.out _ _ hs) ?_
  clear hs
  rintro e w ⟨r, B3, cb3, rfl, hs⟩
  refine ⟨_, rfl, ⟨hs.hold (.blk g2 36 R2) (by simp), (cell_app C1.out [_, _, _, _]) _ hs.hold⟩, ?_⟩
  (try simp only [Act.put, List.setIfInBounds_toArray, List.set_cons_zero, List.set_cons_succ])
  iterate 1 (refine Ch.pure (v := ?_) (by rfl) (by rfl) (by rfl) (fun wx hS => ?_) ?_; rotate_left; (focus (go_simp; (first | done | with_reducible rfl))); (try simp only [Act.put, List.setIfInBounds_toArray, List.set_cons_zero, List.set_cons_succ]))
  refine Ch.noise (by rfl) (by rfl) (by rfl) (Se.ap 0 hs rfl rfl rfl rfl (Reads.blk 1 rfl) Tryz.underlying22 u8i3 rfl (by decide) AO.out (by rw [AL.out]) (by omega) (by omega) ?_)
  clear hs
  rintro w r2 B2 c2 hs
  simp only [List.set_cons_zero] at hs
  refine ⟨⟨hs.hold (.blk g2 36 R2) (by simp), (cell_app C1.out [_, _, _, _]) _ hs.hold⟩, ?_⟩
  (try simp only [Act.put, List.setIfInBounds_toArray, List.set_cons_zero, List.set_cons_succ])
  refine Ch.noise (by rfl) (by rfl) (by rfl) (Se.sow 2 (vs := R2) hs rfl rfl rfl rfl R2O.out (by rw [R2L.out]; kernel_rfl) (by rw [R2L.out, ZL.out]) ?_)
  clear hs
  intro w hs
  try simp only [List.set_cons_zero, List.set_cons_succ] at hs
  refine ⟨⟨hs.hold (.blk g2 36 R2) (by simp), (cell_app C1.out [_, _, _, _]) _ hs.hold⟩, ?_⟩
  (try simp only [Act.put, List.setIfInBounds_toArray, List.set_cons_zero, List.set_cons_succ])
  iterate 2 (refine Ch.pure (v := ?_) (by rfl) (by rfl) (by rfl) (fun wx hS => ?_) ?_; rotate_left; (focus (go_simp; (first | done | with_reducible rfl))); (try simp only [Act.put, List.setIfInBounds_toArray, List.set_cons_zero, List.set_cons_succ]))
  refine Ch.done ?_
  try simp only [List.drop_succ_cons, List.drop_zero]
  go_wp2_with fail
  refine Se.ret hs [.agg R2.toArray, .slice B2 (8 + 32) c2, .int .i64 0] rfl ⟨Se.resRow rfl (Reads.blk 2 rfl) (by kernel_rfl) (by rw [R2L.out]; kernel_rfl), rfl, rfl, trivial⟩ (by simp) rfl ?_
  replace hs := hs.pull 0 rfl
  replace hs := hs.pull 3 rfl
  replace hs := hs.pull 3 rfl
  replace hs := hs.pull 3 rfl
  simp only [List.eraseIdx_cons_succ, List.eraseIdx_cons_zero] at hs
  refine ⟨r2, B2, c2, by rw [HR.out, HR2.out]; simp only [ML.out]; rfl, ?_⟩
  rw [HR.out]
  simp only [ML.out]
  rw [← HM.out]
  exact hs.drop.drop.drop
end Au
end Go.Proofs.YtakdoijemopejaaGreat
/- Layer 38: the reference's Answer on values. No condition but Go's own limits. -/
namespace Go.Proofs.YtakdoijemopejaaGreat
open Go Go.RowKit
namespace Au
open Se (St At Reads Cell)
open Li (v8 v8_one Rd Blk Fr)
open Bv (n8 n16 n32 n64)
variable {w0 w : World} {X : List Nat} {L M : List At}
attribute [local irreducible] Calls
/-- A prover as the reference's value; what it sent is kept as a string. -/
def rps (v : Vs) (s : ByteArray) (A : Option Addr) (c : Nat) : List Value := rpc v.p A c s v.n v.o v.d
def SOk (v : Vs) (s : ByteArray) : Prop := v.o = true → s = toS ((headL v.h).drop 1) ∧ v.h.k = 2#8
def RAns (w0 : World) (X : List Nat) (L : List At) (A : Option Addr) (c : Nat) (R : Vs × Bs × Nat) (e : Ending) (w' : World) : Prop :=
 ∃ r B cb s', SOk R.1 s' ∧ e = .returned (.tuple #[.agg (rps R.1 s' A c).toArray, .slice B R.2.1.length cb, .int .i64 (R.2.2 : Nat)]) ∧ St w0 X (.own 1 r B R.2.1.length cb (R.2.1.map v8) :: L) w'
theorem get2 (b : Bs) (h : 8 ≤ b.length) : n16 ((getL ((b.drop 2).take 2)).setWidth 16) = (b.getD 2 0#8).toNat + 256 * (b.getD 3 0#8).toNat := by
 obtain ⟨l, hl⟩ : ∃ l, l = (b.drop 2).take 2 := ⟨_, rfl⟩
 have h2 : l.length = 2 := by rw [hl]; simp; omega
 have hg : ∀ i, i < 2 → l.getD i 0#8 = b.getD (2 + i) 0#8 := by
  intro i hi
  rw [hl, List.getD_eq_getElem?_getD, List.getD_eq_getElem?_getD, List.getElem?_take_of_lt hi, List.getElem?_drop]
 rw [← hl]
 unfold n16 getL
 rw [h2, BitVec.toNat_setWidth, getN_succ _ _ (by omega), getN_succ _ _ (by omega), hg 1 (by omega), hg 0 (by omega)]
 have e0 : (getN l 0).toNat = 0 := rfl
 have h0 := (b.getD 2 0#8).isLt
 have h1 := (b.getD 3 0#8).isLt
 rw [e0]
 simp only [Nat.reduceAdd, Nat.reduceMul, Nat.reducePow]
 omega
theorem rps_party (v : Vs) (s : ByteArray) (A : Option Addr) (c g : Nat) (T : TypeId) (L : List At) : Reads (.blk g T (rps v s A c) :: L) (some ⟨g, 0, none⟩) (pcl v.p A c) := (Reads.blk (L := .blk g T (rps v s A c) :: L) 0 rfl).take 3
theorem rpc_setN {n : Bs} (h : n.length = 32) (p : Pn) (A : Option Addr) (c : Nat) (s : ByteArray) (o d : Bool) {m : Bs} (hm : m.length = 32) : (rpc p A c s n o d).take 4 ++ m.map v8 ++ (rpc p A c s n o d).drop (4 + (m.map v8).length) = rpc p A c s m o d := by
 rw [List.length_map, hm]
 unfold rpc
 rw [show pcl p A c ++ [.string s] ++ n.map v8 ++ [.bool o, .bool d] = (pcl p A c ++ [.string s]) ++ (n.map v8 ++ [.bool o, .bool d]) by simp]
 rw [List.take_append_of_le_length (by simp [pcl]), List.take_of_length_le (by simp [pcl]), show 4 + 32 = (pcl p A c ++ [Value.string s]).length + 32 by simp [pcl], ← List.drop_drop, List.drop_left, show 32 = (n.map v8).length by simp [h], List.drop_left]
set_option maxRecDepth 100000 in
set_option maxHeartbeats 4000000 in
theorem rans0_st (hs : St w0 X L w) (v : Vs) (s : ByteArray) (hS : SOk v s) (A B : Option Addr) (c n cb : Nat) (hv : v.n.length = 32) (b : Bs) (hn : n = b.length) (hB : Reads L B (b.map v8)) (hle : n ≤ 1000) (both : Bool) (nonce : Bs) (hE : parE b 1#8 0#8 1 ≠ 0) :
  Calls Tryz.prog 14 #[.agg (rps v s A c).toArray, .slice B n cb, .bool both, .agg (nonce.map v8).toArray] w fun e w' => RAns w0 X L A c (ansS v b both nonce) e w' := by
 obtain ⟨RV, hRV⟩ : ∃ RV, RV = rps v s A c := ⟨_, rfl⟩
 obtain ⟨Z, hZ⟩ : ∃ Z, Z = rpc ⟨[], ⟨#[]⟩, ⟨#[]⟩⟩ none 0 ⟨#[]⟩ z32 false false := ⟨_, rfl⟩
 obtain ⟨E, hEE⟩ : ∃ E, E = parE b 1#8 0#8 1 := ⟨_, rfl⟩
 obtain ⟨NV, hNV⟩ : ∃ NV, NV = nonce.map v8 := ⟨_, rfl⟩
 have aI := Lib.hid rpI
 have ZL := Lib.hid (show Z.length = 38 by rw [hZ]; exact rpc_len rfl _ _ _ _ _ _)
 rw [← hZ] at aI
 have RL := Lib.hid (show RV.length = 38 by rw [hRV]; exact rpc_len hv _ _ _ _ _ _)
 have RO := Lib.hid (show ∀ x ∈ RV, x.oneCell' = true by rw [hRV]; exact rpc_one _ _ _ _ _ _ _)
 have CC : Hid (∀ (M : List At) (w : World), St w0 X (M ++ L) w → Calls Tryz.prog 31 #[.slice B n cb, .int .u8 1, .int .i64 40] w fun e w' => e = .returned (.int .i64 (E : Nat)) ∧ St w0 X (M ++ L) w') := Lib.hid (fun M w hs => by
  rw [hEE]; exact rcheck_st (c := cb) (sz := 40) (np := 1) hs 1#8 hn (hB.app M) (fun h => (h rfl).elim) (by omega) (by omega) rfl)
 rw [← hEE] at hE
 have hne : ((E : Int) != 0) = true := int_ne hE
 have HR := Lib.hid (show ansS v b both nonce = (v, [], E) by unfold ansS; rw [← hEE, if_pos hE])
 have HRV := Lib.hid hRV
 have HS := Lib.hid hS
 rw [HR.out, ← hRV, ← hNV]
 clear hE hEE hRV hZ hB hn hNV hS
 go_enter Tryz.func14, Tryz.ntmps14
 go_wp2_with (first | ((with_reducible refine Se.isL (o := ⟨some 8, _, _, _, _, _⟩) ?_); (refine Se.toL rfl (Se.al (o := ⟨some 8, _, _, _, _, _⟩) hs rfl (aI.out) ?_); clear hs; rintro w g8 - hs)) | ((with_reducible refine Se.isL (o := ⟨some 20, _, _, _, _, _⟩) ?_); (refine Se.toL rfl (Se.ldw (o := ⟨some 20, _, _, _, _, _⟩) hs rfl rfl ((Reads.blk 2 rfl)) ((by rw [RL.out]; kernel_rfl)) (by kernel_rfl) ?_))) | ((with_reducible refine Se.isL (o := ⟨none, _, _, _, _, _⟩) ?_); (refine Se.toL rfl (Se.sow 0 hs rfl rfl rfl rfl (RO.out) ((by rw [RL.out]; kernel_rfl)) ((by rw [RL.out, ZL.out])) ?_); clear hs; intro w hs; try simp only [List.cons_append, List.nil_append, List.set_cons_zero] at hs)) | ((first | with_reducible refine Se.ab hs ?_ | with_reducible refine Se.abc hs ?_); clear hs; (first | ((fail_if_success (have _q := g4)); generalize w.heap.size = g4; intro w hs) | (generalize w.heap.size = g7; intro w hs))) | (go_at_call 31; refine Calls.mono (CC.out [_, _, _] _ hs) ?_; clear hs; rintro e w ⟨rfl, hs⟩))
 refine Se.ret hs [.agg RV.toArray, .slice none 0 0, .int .i64 E] rfl ⟨Se.resRow rfl (Reads.blk 0 rfl) (by kernel_rfl) (by rw [RL.out]; kernel_rfl), rfl, rfl, trivial⟩ (by simp) rfl ?_
 exact ⟨none, none, 0, s, HS.out, by rw [HRV.out]; rfl, hs.drop.drop.drop.nil_own 1 none⟩
set_option maxRecDepth 100000 in
set_option maxHeartbeats 4000000 in
theorem rans1_st (hs : St w0 X L w) (v : Vs) (s : ByteArray) (A B : Option Addr) (c n cb : Nat) (hv : v.n.length = 32) (hr : Reads L A (v.p.sec.map v8)) (hk : v.p.sec.length ≤ 1000) (ha : v.p.hs.size ≤ 240) (hb2 : v.p.sb.size ≤ 240) (b : Bs) (hn : n = b.length) (hB : Reads L B (b.map v8)) (both : Bool) (nonce : Bs) (hnl : nonce.length = 32) (hE : parE b 1#8 0#8 1 = 0) :
  Calls Tryz.prog 14 #[.agg (rps v s A c).toArray, .slice B n cb, .bool both, .agg (nonce.map v8).toArray] w fun e w' => RAns w0 X L A c (ansS v b both nonce) e w' := by
 have hl : b.length = 40 := parE_len hE
 obtain rfl : n = 40 := by omega
 obtain ⟨gB, oB, rfl⟩ : ∃ g o, B = some ⟨g, o, none⟩ := by
  obtain ⟨g, o, h, _⟩ := Rd_cell (hB w hs.hold) 0 (v8_at b 0 (by omega))
  exact ⟨g, o, h⟩
 have hf0 : (hdOf b).f = 0#8 := by
  unfold parE at hE
  rw [if_neg (by omega), if_neg (by omega)] at hE
  by_cases h : (hdOf b).f = 0#8
  ·exact h
  ·exfalso
   rw [if_pos (by right; left; show 0 < (hdOf b).f.toNat; rw [Nat.pos_iff_ne_zero]; intro h2; exact h (BitVec.eq_of_toNat_eq h2))] at hE
   cases hE
 obtain ⟨q, hq⟩ : ∃ q, q = (hdOf b).q := ⟨_, rfl⟩
 obtain ⟨sq, hsq⟩ : ∃ sq, sq = (hdOf b).s := ⟨_, rfl⟩
 obtain ⟨fl, hfl⟩ : ∃ fl : BitVec 8, fl = if both then 1#8 else 0#8 := ⟨_, rfl⟩
 obtain ⟨N2, hN2⟩ : ∃ N2 : Bs, N2 = if both then nonce else z32 := ⟨_, rfl⟩
 have hN2l : N2.length = 32 := by rw [hN2]; cases both; rfl; exact hnl
 obtain ⟨RP, hRP⟩ : ∃ RP : Bs, RP = resp v.p.py (prt b 0) ⟨2#8, fl, q, sq⟩ 72#8 := ⟨_, rfl⟩
 have hRPl : RP.length = 32 := by rw [hRP]; exact resp_len _ _ _ _
 have hH : { hdOf b with k := 2#8, f := if both then 1#8 else (hdOf b).f } = (⟨2#8, fl, q, sq⟩ : Hd) := by rw [hf0, hfl, hq, hsq]
 obtain ⟨v', hv'⟩ : ∃ v' : Vs, v' = { v with h := ⟨2#8, fl, q, sq⟩, n := N2, o := true, d := false } := ⟨_, rfl⟩
 have HR := Lib.hid (show ansS v b both nonce = (v', msg ⟨2#8, fl, q, sq⟩ [RP, N2], 0) by unfold ansS; rw [if_neg (by simp [hE]), hH, hv', hRP, hN2])
 obtain ⟨HL, hHL⟩ : ∃ HL, HL = headL ⟨2#8, fl, q, sq⟩ := ⟨_, rfl⟩
 obtain ⟨s', hs'⟩ : ∃ s', s' = toS (HL.drop 1) := ⟨_, rfl⟩
 have HSO := Lib.hid (show SOk v' s' by intro _; rw [hs', hHL, hv']; exact ⟨rfl, rfl⟩)
 have HDL := Lib.hid (show 7 = (HL.drop 1).length by rw [hHL]; simp [headL_len])
 obtain ⟨RV, hRV⟩ : ∃ RV, RV = rps v s A c := ⟨_, rfl⟩
 obtain ⟨R1, hR1⟩ : ∃ R1, R1 = rpc v.p A c s' v.n v.o v.d := ⟨_, rfl⟩
 obtain ⟨R2, hR2⟩ : ∃ R2, R2 = rpc v.p A c s' N2 v.o v.d := ⟨_, rfl⟩
 obtain ⟨R3, hR3⟩ : ∃ R3, R3 = rpc v.p A c s' N2 true v.d := ⟨_, rfl⟩
 obtain ⟨R4, hR4⟩ : ∃ R4, R4 = rps v' s' A c := ⟨_, rfl⟩
 obtain ⟨N2V, hN2V⟩ : ∃ N2V, N2V = N2.map v8 := ⟨_, rfl⟩
 obtain ⟨NV, hNV⟩ : ∃ NV, NV = nonce.map v8 := ⟨_, rfl⟩
 obtain ⟨PL, hPL⟩ : ∃ PL, PL = pcl v.p A c := ⟨_, rfl⟩
 obtain ⟨RPV, hRPV⟩ : ∃ RPV, RPV = RP.map v8 := ⟨_, rfl⟩
 obtain ⟨P0V, hP0V⟩ : ∃ P0V, P0V = (prt b 0).map v8 := ⟨_, rfl⟩
 obtain ⟨Z, hZ⟩ : ∃ Z, Z = rpc ⟨[], ⟨#[]⟩, ⟨#[]⟩⟩ none 0 ⟨#[]⟩ z32 false false := ⟨_, rfl⟩
 obtain ⟨ZB, hZB⟩ : ∃ ZB, ZB = z32.map v8 := ⟨_, rfl⟩
 have aI := Lib.hid rpI
 have aJ := Lib.hid a32J
 have ZL := Lib.hid (show Z.length = 38 by rw [hZ]; exact rpc_len rfl _ _ _ _ _ _)
 have ZBL := Lib.hid (show ZB.length = 32 by rw [hZB]; rfl)
 have ZBO := Lib.hid (show ∀ x ∈ ZB, x.oneCell' = true by rw [hZB]; exact v8_one _)
 have B3 := Lib.hid (show ∀ w : World, (Instr.build 34 #[]).run Tryz.prog w = .ok (.agg ZB.toArray) w by rw [hZB]; exact z32_bd)
 have HNZ := Lib.hid (show both = false → ZB = N2V by intro h; rw [hZB, hN2V, hN2, h]; rfl)
 have HNN := Lib.hid (show both = true → NV = N2V by intro h; rw [hNV, hN2V, hN2, h]; rfl)
 have NL := Lib.hid (show NV.length = 32 by rw [hNV]; simpa using hnl)
 have N2L := Lib.hid (show N2V.length = 32 by rw [hN2V]; simpa using hN2l)
 have N2O := Lib.hid (show ∀ x ∈ N2V, x.oneCell' = true by rw [hN2V]; exact v8_one _)
 have RPL := Lib.hid (show RPV.length = 32 by rw [hRPV]; simpa using hRPl)
 have RPO := Lib.hid (show ∀ x ∈ RPV, x.oneCell' = true by rw [hRPV]; exact v8_one _)
 have PLL := Lib.hid (show PL.length = 3 by rw [hPL]; rfl)
 rw [← hZ] at aI
 rw [← hZB] at aJ
 have RL := Lib.hid (show RV.length = 38 by rw [hRV]; exact rpc_len hv _ _ _ _ _ _)
 have R1L := Lib.hid (show R1.length = 38 by rw [hR1]; exact rpc_len hv _ _ _ _ _ _)
 have R2L := Lib.hid (show R2.length = 38 by rw [hR2]; exact rpc_len hN2l _ _ _ _ _ _)
 have R3L := Lib.hid (show R3.length = 38 by rw [hR3]; exact rpc_len hN2l _ _ _ _ _ _)
 have R4L := Lib.hid (show R4.length = 38 by rw [hR4, hv']; exact rpc_len hN2l _ _ _ _ _ _)
 have R4O := Lib.hid (show ∀ x ∈ R4, x.oneCell' = true by rw [hR4]; exact rpc_one _ _ _ _ _ _ _)
 have E1 := Lib.hid (show RV.set 3 (.string s') = R1 by rw [hRV, hR1]; exact rpc_setS _ _ _ _ _ _ _ _)
 have E2 := Lib.hid (show R1.take 4 ++ N2V ++ R1.drop (4 + N2V.length) = R2 by rw [hR1, hR2, hN2V]; exact rpc_setN hv _ _ _ _ _ _ hN2l)
 have E3 := Lib.hid (show R2.set 36 (.bool true) = R3 by rw [hR2, hR3]; exact rpc_setO hN2l _ _ _ _ _ _ _)
 have E4 := Lib.hid (show R3.set 37 (.bool false) = R4 by rw [hR3, hR4, hv']; exact rpc_setD hN2l _ _ _ _ _ _ _)
 have RP0 := Lib.hid (show ∀ L g, Reads (.blk g 46 RV :: L) (some ⟨g, 0, none⟩) PL by intro L g; rw [hRV, hPL]; exact rps_party v s A c g _ L)
 have HM := Lib.hid (show HL.map v8 ++ RPV ++ N2V = (msg ⟨2#8, fl, q, sq⟩ [RP, N2]).map v8 by rw [hHL, hRPV, hN2V]; simp [msg])
 have ML := Lib.hid (show (msg ⟨2#8, fl, q, sq⟩ [RP, N2]).length = 8 + 32 + 32 by unfold msg; simp [headL_len, hRPl, hN2l])
 have hprt : (prt b 0).length = 32 := prt_len (np := 1) hl (by omega)
 have CC : Hid (∀ (M : List At) (w : World), St w0 X (M ++ L) w → Calls Tryz.prog 31 #[.slice (some ⟨gB, oB, none⟩) 40 cb, .int .u8 1, .int .i64 40] w fun e w' => e = .returned (.int .i64 0) ∧ St w0 X (M ++ L) w') := Lib.hid (fun M w hs => by
  have h := rcheck_st (c := cb) (sz := 40) (np := 1) hs 1#8 hn (hB.app M) (fun h => (h rfl).elim) (by omega) (by omega) rfl
  rw [show (if (1#8 : BitVec 8) = 1#8 then 0#8 else 1#8) = 0#8 from rfl, hE] at h
  exact h)
 have CW : Hid (∀ (M : List At) (w : World), St w0 X (M ++ L) w → Calls Tryz.prog 32 #[.slice (some ⟨gB, oB, none⟩) 40 cb] w fun e w' => e = .returned (.int .u32 (n32 sq)) ∧ St w0 X (M ++ L) w') := Lib.hid (fun M w hs => by rw [hsq]; exact rword_st hs hn (hB.app M) (by omega))
 have CP : Hid (∀ (M : List At) (w : World), St w0 X (M ++ L) w → Calls Tryz.prog 33 #[.slice (some ⟨gB, oB, none⟩) 40 cb, .int .i64 8] w fun e w' => e = .returned (.agg P0V.toArray) ∧ St w0 X (M ++ L) w') := Lib.hid (fun M w hs => by rw [hP0V]; exact rpart_st (k := 8) hs hn (hB.app M) (by omega) (by omega))
 have CR : Hid (∀ (M : List At) (w : World), St w0 X (M ++ L) w → Calls Tryz.prog 24 #[.agg PL.toArray, .agg P0V.toArray, .int .u32 (n32 sq), .int .u16 (n16 q), .bool false] w fun e w' => e = .returned (.agg RPV.toArray) ∧ St w0 X (M ++ L) w') := Lib.hid (fun M w hs => by
  rw [hPL, hP0V, hRPV, hRP, show resp v.p.py (prt b 0) ⟨2#8, fl, q, sq⟩ 72#8 = resp v.p.py (prt b 0) ⟨0#8, 0#8, q, sq⟩ 72#8 from resp_eq _ _ rfl rfl]
  exact rresp_st hs v.p A c (prt b 0) q sq false (hr.app M) hk hprt ha hb2)
 obtain ⟨fz, hfz⟩ : ∃ fz : Int, fz = n8 fl := ⟨_, rfl⟩
 have HFZ := Lib.hid (show fz = if both then 1 else 0 by rw [hfz, hfl]; cases both <;> rfl)
 have CH : Hid (∀ (L' : List At) (w : World), St w0 X L' w → Calls Tryz.prog 30 #[.int .i64 2, .int .i64 fz, .int .u16 (n16 q), .int .u32 (n32 sq)] w fun e w' => ∃ gA oA cA, e = .returned (.slice (some ⟨gA, oA, none⟩) 8 cA) ∧ ((8 : Int) ≤ (cA : Int) ∧ cA ≠ 1 ∧ 1 < cA) ∧ St w0 X (.own 1 (some gA) (some ⟨gA, oA, none⟩) 8 cA (HL.map v8) :: L') w') := Lib.hid (fun L' w hs => by
  rw [hHL, hfz]
  refine (rhead_st hs ⟨2#8, fl, q, sq⟩).mono ?_
  rintro e w' ⟨r, A', c', rfl, hs⟩
  obtain ⟨g, o, rfl, rfl⟩ := hs.own_at 0 rfl (by omega)
  have h8 : 8 ≤ c' := (show Se.Ow w' 1 (some g) (some ⟨g, o, none⟩) 8 c' _ from hs.hold _ List.mem_cons_self).2.1
  exact ⟨g, o, c', rfl, ⟨by omega, by omega, by omega⟩, hs⟩)
 obtain ⟨b2, hb2'⟩ : ∃ x, x = b.getD 2 0#8 := ⟨_, rfl⟩
 obtain ⟨b3, hb3⟩ : ∃ x, x = b.getD 3 0#8 := ⟨_, rfl⟩
 have C2 := Lib.hid (show Cell L gB (oB + 2) (.int .u8 (n8 b2)) by rw [hb2']; exact hB.cell 2 (v8_at b 2 (by omega)))
 have C3 := Lib.hid (show Cell L gB (oB + 3) (.int .u8 (n8 b3)) by rw [hb3]; exact hB.cell 3 (v8_at b 3 (by omega)))
 have HQ := Lib.hid (show n16 q = (b2.toNat : Int) + 256 * b3.toNat by rw [hq, hb2', hb3, ← get2 b (by omega)]; rfl)
 have HS' := Lib.hid hs'
 have HR4 := Lib.hid hR4
 rw [HR.out, ← hRV, ← hNV]
 clear hE hl hf0 hq hsq hfl hN2 hN2l hRP hRPl hH hv' HR hHL hRV hR1 hR2 hR3 hR4 hN2V hNV hPL hRPV hP0V hZ hZB hprt hfz hb2' hb3 hs' hB hn hnl hr hk ha hb2 hv
 go_enter Tryz.func14, Tryz.ntmps14
 go_upto_if 23 with (first | ((with_reducible refine Se.isL (o := ⟨some 8, _, _, _, _, _⟩) ?_); (refine Se.toL rfl (Se.al (o := ⟨some 8, _, _, _, _, _⟩) hs rfl (aI.out) ?_); clear hs; rintro w g8 - hs)) | ((first | with_reducible refine Se.ab hs ?_ | with_reducible refine Se.abc hs ?_); clear hs; (first | ((fail_if_success (have _q := g4)); generalize w.heap.size = g4; intro w hs) | (generalize w.heap.size = g7; intro w hs))) | (go_at_call 31; refine Calls.mono (CC.out [_, _, _] _ hs) ?_; clear hs; rintro e w ⟨rfl, hs⟩))
 clear CC
 go_cut [12] (fun s12 wx => s12 = .int .i64 fz ∧ St w0 X (.blk g8 46 Z :: .blk g7 34 N2V :: .blk g4 46 RV :: L) wx)
 case first =>
  cases both with
  | true =>
   have hN := Lib.hid (HNN.out rfl)
   go_wp2_with fail
   go_meet
   rw [hN.out] at hs
   exact ⟨by rw [HFZ.out]; rfl, hs⟩
  | false =>
   have hN := Lib.hid (HNZ.out rfl)
   go_wp2_with (first | ((with_reducible refine Se.isL (o := ⟨some 24, _, _, _, _, _⟩) ?_); (refine Se.toL rfl (Se.bd (o := ⟨some 24, _, _, _, _, _⟩) rfl rfl (B3.out _) ?_))) | ((with_reducible refine Se.isL (o := ⟨none, _, _, _, _, _⟩) ?_); (refine Se.toL rfl (Se.sow 1 hs rfl rfl rfl rfl (ZBO.out) ((by rw [ZBL.out]; kernel_rfl)) ((by rw [ZBL.out, NL.out])) ?_); clear hs; intro w hs; try simp only [List.cons_append, List.nil_append, List.set_cons_zero, List.set_cons_succ] at hs)))
   go_meet
   rw [hN.out] at hs
   exact ⟨by rw [HFZ.out]; rfl, hs⟩
 case rest =>
 clear hs
 rename World => w
 obtain ⟨rfl, hs⟩ := hcut
 clear HNN HNZ B3 NL
 have hwq : IntKind.u16.wrap (IntKind.u16.wrap (n8 b2) + IntKind.u16.wrap (256 * IntKind.u16.wrap (n8 b3))) = n16 q := by
  rw [HQ.out]
  have := b2.isLt
  have := b3.isLt
  unfold n8
  simp [IntKind.wrap, IntKind.bits, IntKind.signed]
  omega
 go_upto_region 8 with (fail)
 refine Ch.region' 11 (fun wx => wx.cell? ⟨gB, oB + 2, none⟩ = some (.int .u8 (n8 b2)) ∧ wx.cell? ⟨gB, oB + 3, none⟩ = some (.int .u8 (n8 b3))) (fun  | _ => false) (by kernel_rfl) (by decide +kernel) (⟨cell_app C2.out [_, _, _] _ hs.drew.hold, cell_app C3.out [_, _, _] _ hs.drew.hold⟩) ?_
 replace hs := hs.drew
 generalize w.drew = w at hs ⊢
 change Ch.CW _ _ _ _ _ [0, 1, 2, 3, 4, 5, 6, 7, 8, 9, 10] _ _
 iterate 11 ((first | (refine Ch.pure (v := ?_) (by rfl) (by rfl) (by rfl) (fun wx hS => ?_) ?_; rotate_left; (focus (go_simp; (first | done | with_reducible rfl)))) | refine Ch.pure (v := _) (by rfl) (by rfl) (by rfl) (fun wx hS => Se.xl rfl rfl hS.1 (by decide +kernel)) ?_ | refine Ch.pure (v := _) (by rfl) (by rfl) (by rfl) (fun wx hS => Se.xl rfl rfl hS.2 (by decide +kernel)) ?_); (try simp only [Act.put, List.setIfInBounds_toArray, List.set_cons_zero, List.set_cons_succ]))
 refine Ch.done ?_
 try simp only [List.drop_succ_cons, List.drop_zero]
 go_upto_region 10 with (first | (go_at_call 32; refine Calls.mono (CW.out [_, _, _] _ hs) ?_; clear hs; rintro e w ⟨rfl, hs⟩) | (go_at_call 30; refine Calls.mono (CH.out _ _ hs) ?_; clear hs; rintro e w ⟨gA, oA, cA, rfl, ⟨j1, j2, j3⟩, hs⟩))
 clear CH hwq
 go_cut [15] (fun s15 wx => ∃ g15, s15 = .pointer (some ⟨g15, 0, none⟩) ∧ St w0 X (.blk g15 34 RPV :: .own 1 (some gA) (some ⟨gA, oA, none⟩) 8 cA (HL.map v8) :: .blk g8 46 Z :: .blk g7 34 N2V :: .blk g4 46 RV :: L) wx)
 case first =>
  refine Or.region 10 (fun wx => Rd wx (some ⟨g4, 0, none⟩) PL) (fun | 3 => true | 5 => true | 7 => true | 8 => true | 9 => true | _ => false) (by kernel_rfl) (by decide +kernel) (((RP0.out _ _).app [_, _, _]) _ hs.drew.hold) ?_
  replace hs := hs.drew
  generalize w.drew = w at hs ⊢
  change Or.AW _ _ _ _ _ 10 [0, 1, 2, 3, 4, 5, 6, 7, 8, 9] _ _
  refine Or.pure 0 (v := ?_) (by rfl) (by decide +kernel) (by rfl) (by rfl) (by rfl) (fun wx hS => ?_) ?_; rotate_left; (focus (go_simp; (first | done | with_reducible rfl)))
  (try simp only [Act.put, List.setIfInBounds_toArray, List.set_cons_zero, List.set_cons_succ])
  change Or.AW _ _ _ _ _ 9 [1, 2, 3, 4, 5, 6, 7, 8, 9] _ _
  refine Or.pure 1 (v := .agg PL.toArray) (by rfl) (by decide +kernel) (by rfl) (by rfl) (by rfl) (fun wx hS => Se.xla rfl rfl hS (by rw [PLL.out]; kernel_rfl) (by decide +kernel)) ?_
  (try simp only [Act.put, List.setIfInBounds_toArray, List.set_cons_zero, List.set_cons_succ])
  change Or.AW _ _ _ _ _ 8 [2, 3, 4, 5, 6, 7, 8, 9] _ _
  refine Or.pure 2 (v := ?_) (by rfl) (by decide +kernel) (by rfl) (by rfl) (by rfl) (fun wx hS => ?_) ?_; rotate_left; (focus (go_simp; (first | done | with_reducible rfl)))
  (try simp only [Act.put, List.setIfInBounds_toArray, List.set_cons_zero, List.set_cons_succ])
  change Or.AW _ _ _ _ _ 7 [3, 4, 5, 6, 7, 8, 9] _ _
  refine Or.pure 4 (v := ?_) (by rfl) (by decide +kernel) (by rfl) (by rfl) (by rfl) (fun wx hS => ?_) ?_; rotate_left; (focus (go_simp; (first | done | with_reducible rfl)))
  (try simp only [Act.put, List.setIfInBounds_toArray, List.set_cons_zero, List.set_cons_succ])
  change Or.AW _ _ _ _ _ 6 [3, 5, 6, 7, 8, 9] _ _
  refine Or.pure 6 (v := ?_) (by rfl) (by decide +kernel) (by rfl) (by rfl) (by rfl) (fun wx hS => ?_) ?_; rotate_left; (focus (go_simp; (first | done | with_reducible rfl)))
  (try simp only [Act.put, List.setIfInBounds_toArray, List.set_cons_zero, List.set_cons_succ])
  change Or.AW _ _ _ _ _ 5 [3, 5, 7, 8, 9] _ _
  refine Or.two 3 8 (by decide +kernel) (by decide +kernel) (by rfl) (by rfl) (by rfl) (by rfl) ?_ ?_
  ·skip
   refine Se.gcall (f := 33) (args := #[.slice (some ⟨gB, oB, none⟩) 40 cb, .int .i64 8]) ?_ ?_
   ·go_simp
   refine Calls.mono (CP.out [_, _, _, _] _ hs) ?_
   clear hs
   rintro e w ⟨rfl, hs⟩
   refine ⟨_, rfl, ((RP0.out _ _).app [_, _, _]) _ hs.hold, ?_⟩
   (try simp only [Act.put, List.setIfInBounds_toArray, List.set_cons_zero, List.set_cons_succ])
   change Or.AW _ _ _ _ _ 4 [5, 7, 8, 9] _ _
   refine Or.two 5 8 (by decide +kernel) (by decide +kernel) (by rfl) (by rfl) (by rfl) (by rfl) ?_ ?_
   ·skip
    refine Se.gcall (f := 32) (args := #[.slice (some ⟨gB, oB, none⟩) 40 cb]) ?_ ?_
    ·go_simp
    refine Calls.mono (CW.out [_, _, _, _] _ hs) ?_
    clear hs
    rintro e w ⟨rfl, hs⟩
    refine ⟨_, rfl, ((RP0.out _ _).app [_, _, _]) _ hs.hold, ?_⟩
    (try simp only [Act.put, List.setIfInBounds_toArray, List.set_cons_zero, List.set_cons_succ])
    change Or.AW _ _ _ _ _ 3 [7, 8, 9] _ _
    refine Or.two 7 8 (by decide +kernel) (by decide +kernel) (by rfl) (by rfl) (by rfl) (by rfl) ?_ ?_
    ·skip
     refine Se.gcall (f := 24) (args := #[.agg PL.toArray, .agg P0V.toArray, .int .u32 (n32 sq), .int .u16 (n16 q), .bool false]) ?_ ?_
     ·go_simp
     refine Calls.mono (CR.out [_, _, _, _] _ hs) ?_
     clear hs
     rintro e w ⟨rfl, hs⟩
     refine ⟨_, rfl, ((RP0.out _ _).app [_, _, _]) _ hs.hold, ?_⟩
     (try simp only [Act.put, List.setIfInBounds_toArray, List.set_cons_zero, List.set_cons_succ])
     change Or.AW _ _ _ _ _ 2 [8, 9] _ _
     refine Or.one 8 (by decide +kernel) (by decide +kernel) (by rfl) (by rfl) ?_
     refine Se.al hs rfl aJ.out ?_
     clear hs
     rintro w g15 - hs
     refine ⟨((RP0.out _ _).app [_, _, _, _]) _ hs.hold, ?_⟩
     (try simp only [Act.put, List.setIfInBounds_toArray, List.set_cons_zero, List.set_cons_succ])
     change Or.AW _ _ _ _ _ 1 [9] _ _
     refine Or.one 9 (by decide +kernel) (by decide +kernel) (by rfl) (by rfl) ?_
     refine Se.sow 0 (vs := RPV) hs rfl rfl rfl rfl RPO.out (by rw [RPL.out]; kernel_rfl) (by rw [RPL.out, ZBL.out]) ?_
     clear hs
     intro w hs
     try simp only [List.set_cons_zero, List.set_cons_succ] at hs
     refine ⟨((RP0.out _ _).app [_, _, _, _]) _ hs.hold, ?_⟩
     (try simp only [Act.put])
     change Or.AW _ _ _ _ _ 0 [] _ _
     refine Or.done ?_
     simp only [List.drop_succ_cons, List.drop_zero]
     go_wp2_with fail
     go_meet
     exact ⟨g15, rfl, hs⟩
    ·skip
     refine Se.al hs rfl aJ.out ?_
     clear hs
     rintro w g15 - hs
     refine ⟨((RP0.out _ _).app [_, _, _, _]) _ hs.hold, ?_⟩
     (try simp only [Act.put, List.setIfInBounds_toArray, List.set_cons_zero, List.set_cons_succ])
     change Or.AW _ _ _ _ _ 2 [7, 9] _ _
     refine Or.one 7 (by decide +kernel) (by decide +kernel) (by rfl) (by rfl) ?_
     refine Se.gcall (f := 24) (args := #[.agg PL.toArray, .agg P0V.toArray, .int .u32 (n32 sq), .int .u16 (n16 q), .bool false]) ?_ ?_
     ·go_simp
     refine Calls.mono (CR.out [_, _, _, _, _] _ hs) ?_
     clear hs
     rintro e w ⟨rfl, hs⟩
     refine ⟨_, rfl, ((RP0.out _ _).app [_, _, _, _]) _ hs.hold, ?_⟩
     (try simp only [Act.put, List.setIfInBounds_toArray, List.set_cons_zero, List.set_cons_succ])
     change Or.AW _ _ _ _ _ 1 [9] _ _
     refine Or.one 9 (by decide +kernel) (by decide +kernel) (by rfl) (by rfl) ?_
     refine Se.sow 0 (vs := RPV) hs rfl rfl rfl rfl RPO.out (by rw [RPL.out]; kernel_rfl) (by rw [RPL.out, ZBL.out]) ?_
     clear hs
     intro w hs
     try simp only [List.set_cons_zero, List.set_cons_succ] at hs
     refine ⟨((RP0.out _ _).app [_, _, _, _]) _ hs.hold, ?_⟩
     (try simp only [Act.put])
     change Or.AW _ _ _ _ _ 0 [] _ _
     refine Or.done ?_
     simp only [List.drop_succ_cons, List.drop_zero]
     go_wp2_with fail
     go_meet
     exact ⟨g15, rfl, hs⟩
   ·skip
    refine Se.al hs rfl aJ.out ?_
    clear hs
    rintro w g15 - hs
    refine ⟨((RP0.out _ _).app [_, _, _, _]) _ hs.hold, ?_⟩
    (try simp only [Act.put, List.setIfInBounds_toArray, List.set_cons_zero, List.set_cons_succ])
    change Or.AW _ _ _ _ _ 3 [5, 7, 9] _ _
    refine Or.one 5 (by decide +kernel) (by decide +kernel) (by rfl) (by rfl) ?_
    refine Se.gcall (f := 32) (args := #[.slice (some ⟨gB, oB, none⟩) 40 cb]) ?_ ?_
    ·go_simp
    refine Calls.mono (CW.out [_, _, _, _, _] _ hs) ?_
    clear hs
    rintro e w ⟨rfl, hs⟩
    refine ⟨_, rfl, ((RP0.out _ _).app [_, _, _, _]) _ hs.hold, ?_⟩
    (try simp only [Act.put, List.setIfInBounds_toArray, List.set_cons_zero, List.set_cons_succ])
    change Or.AW _ _ _ _ _ 2 [7, 9] _ _
    refine Or.one 7 (by decide +kernel) (by decide +kernel) (by rfl) (by rfl) ?_
    refine Se.gcall (f := 24) (args := #[.agg PL.toArray, .agg P0V.toArray, .int .u32 (n32 sq), .int .u16 (n16 q), .bool false]) ?_ ?_
    ·go_simp
    refine Calls.mono (CR.out [_, _, _, _, _] _ hs) ?_
    clear hs
    rintro e w ⟨rfl, hs⟩
    refine ⟨_, rfl, ((RP0.out _ _).app [_, _, _, _]) _ hs.hold, ?_⟩
    (try simp only [Act.put, List.setIfInBounds_toArray, List.set_cons_zero, List.set_cons_succ])
    change Or.AW _ _ _ _ _ 1 [9] _ _
    refine Or.one 9 (by decide +kernel) (by decide +kernel) (by rfl) (by rfl) ?_
    refine Se.sow 0 (vs := RPV) hs rfl rfl rfl rfl RPO.out (by rw [RPL.out]; kernel_rfl) (by rw [RPL.out, ZBL.out]) ?_
    clear hs
    intro w hs
    try simp only [List.set_cons_zero, List.set_cons_succ] at hs
    refine ⟨((RP0.out _ _).app [_, _, _, _]) _ hs.hold, ?_⟩
    (try simp only [Act.put])
    change Or.AW _ _ _ _ _ 0 [] _ _
    refine Or.done ?_
    simp only [List.drop_succ_cons, List.drop_zero]
    go_wp2_with fail
    go_meet
    exact ⟨g15, rfl, hs⟩
  ·skip
   refine Se.al hs rfl aJ.out ?_
   clear hs
   rintro w g15 - hs
   refine ⟨((RP0.out _ _).app [_, _, _, _]) _ hs.hold, ?_⟩
   (try simp only [Act.put, List.setIfInBounds_toArray, List.set_cons_zero, List.set_cons_succ])
   change Or.AW _ _ _ _ _ 4 [3, 5, 7, 9] _ _
   refine Or.one 3 (by decide +kernel) (by decide +kernel) (by rfl) (by rfl) ?_
   refine Se.gcall (f := 33) (args := #[.slice (some ⟨gB, oB, none⟩) 40 cb, .int .i64 8]) ?_ ?_
   ·go_simp
   refine Calls.mono (CP.out [_, _, _, _, _] _ hs) ?_
   clear hs
   rintro e w ⟨rfl, hs⟩
   refine ⟨_, rfl, ((RP0.out _ _).app [_, _, _, _]) _ hs.hold, ?_⟩
   (try simp only [Act.put, List.setIfInBounds_toArray, List.set_cons_zero, List.set_cons_succ])
   change Or.AW _ _ _ _ _ 3 [5, 7, 9] _ _
   refine Or.one 5 (by decide +kernel) (by decide +kernel) (by rfl) (by rfl) ?_
   refine Se.gcall (f := 32) (args := #[.slice (some ⟨gB, oB, none⟩) 40 cb]) ?_ ?_
   ·go_simp
   refine Calls.mono (CW.out [_, _, _, _, _] _ hs) ?_
   clear hs
   rintro e w ⟨rfl, hs⟩
   refine ⟨_, rfl, ((RP0.out _ _).app [_, _, _, _]) _ hs.hold, ?_⟩
   (try simp only [Act.put, List.setIfInBounds_toArray, List.set_cons_zero, List.set_cons_succ])
   change Or.AW _ _ _ _ _ 2 [7, 9] _ _
   refine Or.one 7 (by decide +kernel) (by decide +kernel) (by rfl) (by rfl) ?_
   refine Se.gcall (f := 24) (args := #[.agg PL.toArray, .agg P0V.toArray, .int .u32 (n32 sq), .int .u16 (n16 q), .bool false]) ?_ ?_
   ·go_simp
   refine Calls.mono (CR.out [_, _, _, _, _] _ hs) ?_
   clear hs
   rintro e w ⟨rfl, hs⟩
   refine ⟨_, rfl, ((RP0.out _ _).app [_, _, _, _]) _ hs.hold, ?_⟩
   (try simp only [Act.put, List.setIfInBounds_toArray, List.set_cons_zero, List.set_cons_succ])
   change Or.AW _ _ _ _ _ 1 [9] _ _
   refine Or.one 9 (by decide +kernel) (by decide +kernel) (by rfl) (by rfl) ?_
   refine Se.sow 0 (vs := RPV) hs rfl rfl rfl rfl RPO.out (by rw [RPL.out]; kernel_rfl) (by rw [RPL.out, ZBL.out]) ?_
   clear hs
   intro w hs
   try simp only [List.set_cons_zero, List.set_cons_succ] at hs
   refine ⟨((RP0.out _ _).app [_, _, _, _]) _ hs.hold, ?_⟩
   (try simp only [Act.put])
   change Or.AW _ _ _ _ _ 0 [] _ _
   refine Or.done ?_
   simp only [List.drop_succ_cons, List.drop_zero]
   go_wp2_with fail
   go_meet
   exact ⟨g15, rfl, hs⟩
 case rest =>
 clear hs
 rename World => w
 obtain ⟨g15, rfl, hs⟩ := hcut
 clear CP CW CR
 have ROW := Lib.hid (show ∀ (L' M : List At), M.length = 1 → ∀ w, (∀ a ∈ M ++ .own 1 (some gA) (some ⟨gA, oA, none⟩) 8 cA (HL.map v8) :: L', a.holds w) → Rd w (some ⟨gA, oA + 1, none⟩) ((HL.drop 1).map v8) by
  intro L' M _ w hw
  rw [List.map_drop]
  exact (((Reads.own (L := .own 1 (some gA) (some ⟨gA, oA, none⟩) 8 cA (HL.map v8) :: L') 0 rfl).at 1).app M) w hw)
 go_upto_region 11 with (fail)
 refine Ch.region' 12 (fun wx => Blk wx g7 N2V 34 ∧ Rd wx (some ⟨gA, oA + 1, none⟩) ((HL.drop 1).map v8)) (fun | 5 => true | 7 => true | 9 => true | 11 => true | _ => false) (by kernel_rfl) (by decide +kernel) (⟨hs.drew.hold (.blk g7 34 N2V) (by simp), ROW.out _ [_] rfl _ hs.drew.hold⟩) ?_
 replace hs := hs.drew
 generalize w.drew = w at hs ⊢
 change Ch.CW _ _ _ _ _ [0, 1, 2, 3, 4, 5, 6, 7, 8, 9, 10, 11] _ _
 iterate 2 ((first | (refine Ch.pure (v := ?_) (by rfl) (by rfl) (by rfl) (fun wx hS => ?_) ?_; rotate_left; (focus (go_simp; (first | done | with_reducible rfl))))); (try simp only [Act.put, List.setIfInBounds_toArray, List.set_cons_zero, List.set_cons_succ]))
 refine Ch.pure (v := .string s') (by rfl) (by rfl) (by rfl) (fun wx hS => by rw [HS'.out]; exact xcs rfl rfl HDL.out hS.2) ?_
 (try simp only [Act.put, List.setIfInBounds_toArray, List.set_cons_zero, List.set_cons_succ])
 iterate 2 ((first | (refine Ch.pure (v := ?_) (by rfl) (by rfl) (by rfl) (fun wx hS => ?_) ?_; rotate_left; (focus (go_simp; (first | done | with_reducible rfl)))) | refine Ch.pure (v := _) (by rfl) (by rfl) (by rfl) (fun wx hS => Se.xla rfl rfl (Li.Rd.of_blk hS.1) (by rw [N2L.out]; kernel_rfl) (by decide +kernel)) ?_); (try simp only [Act.put, List.setIfInBounds_toArray, List.set_cons_zero, List.set_cons_succ]))
 refine Ch.noise (by rfl) (by rfl) (by rfl) (Se.soq 4 (v := .string s') hs rfl rfl rfl rfl rfl (by kernel_rfl) (by rw [RL.out]; omega) E1.out ?_)
 clear hs
 intro w hs
 simp only [List.set_cons_zero, List.set_cons_succ] at hs
 refine ⟨⟨hs.hold (.blk g7 34 N2V) (by simp), ROW.out _ [_] rfl _ hs.hold⟩, ?_⟩
 (try simp only [Act.put, List.setIfInBounds_toArray, List.set_cons_zero, List.set_cons_succ])
 iterate 1 (refine Ch.pure (v := ?_) (by rfl) (by rfl) (by rfl) (fun wx hS => ?_) ?_; rotate_left; (focus (go_simp; (first | done | with_reducible rfl))); (try simp only [Act.put, List.setIfInBounds_toArray, List.set_cons_zero, List.set_cons_succ]))
 refine Ch.noise (by rfl) (by rfl) (by rfl) (Au.soaq 4 (vs := N2V) hs rfl rfl rfl rfl N2O.out (by rw [N2L.out]; kernel_rfl) (by rw [N2L.out, R1L.out]; omega) E2.out ?_)
 clear hs
 intro w hs
 simp only [List.set_cons_zero, List.set_cons_succ] at hs
 refine ⟨⟨hs.hold (.blk g7 34 N2V) (by simp), ROW.out _ [_] rfl _ hs.hold⟩, ?_⟩
 (try simp only [Act.put, List.setIfInBounds_toArray, List.set_cons_zero, List.set_cons_succ])
 iterate 1 (refine Ch.pure (v := ?_) (by rfl) (by rfl) (by rfl) (fun wx hS => ?_) ?_; rotate_left; (focus (go_simp; (first | done | with_reducible rfl))); (try simp only [Act.put, List.setIfInBounds_toArray, List.set_cons_zero, List.set_cons_succ]))
 refine Ch.noise (by rfl) (by rfl) (by rfl) (Se.soq 4 (v := .bool true) hs rfl rfl rfl rfl rfl (by kernel_rfl) (by rw [R2L.out]; omega) E3.out ?_)
 clear hs
 intro w hs
 simp only [List.set_cons_zero, List.set_cons_succ] at hs
 refine ⟨⟨hs.hold (.blk g7 34 N2V) (by simp), ROW.out _ [_] rfl _ hs.hold⟩, ?_⟩
 (try simp only [Act.put, List.setIfInBounds_toArray, List.set_cons_zero, List.set_cons_succ])
 iterate 1 (refine Ch.pure (v := ?_) (by rfl) (by rfl) (by rfl) (fun wx hS => ?_) ?_; rotate_left; (focus (go_simp; (first | done | with_reducible rfl))); (try simp only [Act.put, List.setIfInBounds_toArray, List.set_cons_zero, List.set_cons_succ]))
 refine Ch.noise (by rfl) (by rfl) (by rfl) (Se.soq 4 (v := .bool false) hs rfl rfl rfl rfl rfl (by kernel_rfl) (by rw [R3L.out]; omega) E4.out ?_)
 clear hs
 intro w hs
 simp only [List.set_cons_zero, List.set_cons_succ] at hs
 refine ⟨⟨hs.hold (.blk g7 34 N2V) (by simp), ROW.out _ [_] rfl _ hs.hold⟩, ?_⟩
 (try simp only [Act.put, List.setIfInBounds_toArray, List.set_cons_zero, List.set_cons_succ])
 refine Ch.done ?_
 try simp only [List.drop_succ_cons, List.drop_zero]
 clear E1 E2 E3 E4 R1L R2L R3L ROW
 go_upto_region 12 with (fail)
 refine Ch.region' 9 (fun wx => Blk wx g4 R4 46) (fun | 3 => true | 5 => true | 6 => true | _ => false) (by kernel_rfl) (by decide +kernel) (hs.drew.hold (.blk g4 46 R4) (by simp)) ?_
 replace hs := hs.drew
 generalize w.drew = w at hs ⊢
 change Ch.CW _ _ _ _ _ [0, 1, 2, 3, 4, 5, 6, 7, 8] _ _
 iterate 3 ((first | (refine Ch.pure (v := ?_) (by rfl) (by rfl) (by rfl) (fun wx hS => ?_) ?_; rotate_left; (focus (go_simp; (first | done | with_reducible rfl)))) | refine Ch.pure (v := _) (by rfl) (by rfl) (by rfl) (fun wx hS => Se.xla rfl rfl (Li.Rd.of_blk hS) (by rw [R4L.out]; kernel_rfl) (by decide +kernel)) ?_); (try simp only [Act.put, List.setIfInBounds_toArray, List.set_cons_zero, List.set_cons_succ]))
 refine Ch.noise (by rfl) (by rfl) (by rfl) (Se.ap 1 hs rfl rfl rfl rfl (Reads.blk 0 rfl) Tryz.underlying22 u8i3 rfl (by decide) RPO.out (by rw [RPL.out]) (by omega) (by omega) ?_)
 clear hs
 rintro w r2 B2 c2 hs
 simp only [List.set_cons_zero, List.set_cons_succ] at hs
 refine ⟨hs.hold (.blk g4 46 R4) (by simp), ?_⟩
 (try simp only [Act.put, List.setIfInBounds_toArray, List.set_cons_zero, List.set_cons_succ])
 iterate 1 (refine Ch.pure (v := ?_) (by rfl) (by rfl) (by rfl) (fun wx hS => ?_) ?_; rotate_left; (focus (go_simp; (first | done | with_reducible rfl))); (try simp only [Act.put, List.setIfInBounds_toArray, List.set_cons_zero, List.set_cons_succ]))
 refine Ch.noise (by rfl) (by rfl) (by rfl) (Se.ap 1 hs rfl rfl rfl rfl (Reads.blk 3 rfl) Tryz.underlying22 u8i3 rfl (by decide) N2O.out (by rw [N2L.out]) (by omega) (by omega) ?_)
 clear hs
 rintro w r3 B3 c3 hs
 simp only [List.set_cons_zero, List.set_cons_succ] at hs
 refine ⟨hs.hold (.blk g4 46 R4) (by simp), ?_⟩
 (try simp only [Act.put, List.setIfInBounds_toArray, List.set_cons_zero, List.set_cons_succ])
 refine Ch.noise (by rfl) (by rfl) (by rfl) (Se.sow 2 (vs := R4) hs rfl rfl rfl rfl R4O.out (by rw [R4L.out]; kernel_rfl) (by rw [R4L.out, ZL.out]) ?_)
 clear hs
 intro w hs
 simp only [List.set_cons_zero, List.set_cons_succ] at hs
 refine ⟨hs.hold (.blk g4 46 R4) (by simp), ?_⟩
 (try simp only [Act.put, List.setIfInBounds_toArray, List.set_cons_zero, List.set_cons_succ])
 iterate 2 (refine Ch.pure (v := ?_) (by rfl) (by rfl) (by rfl) (fun wx hS => ?_) ?_; rotate_left; (focus (go_simp; (first | done | with_reducible rfl))); (try simp only [Act.put, List.setIfInBounds_toArray, List.set_cons_zero, List.set_cons_succ]))
 refine Ch.done ?_
 try simp only [List.drop_succ_cons, List.drop_zero]
 go_wp2_with fail
 refine Se.ret hs [.agg R4.toArray, .slice B3 (8 + 32 + 32) c3, .int .i64 0] rfl ⟨Se.resRow rfl (Reads.blk 2 rfl) (by kernel_rfl) (by rw [R4L.out]; kernel_rfl), rfl, rfl, trivial⟩ (by simp) rfl ?_
 replace hs := hs.pull 1 rfl
 replace hs := hs.pull 4 rfl
 replace hs := hs.pull 4 rfl
 replace hs := hs.pull 4 rfl
 replace hs := hs.pull 4 rfl
 simp only [List.eraseIdx_cons_succ, List.eraseIdx_cons_zero] at hs
 refine ⟨r3, B3, c3, s', HSO.out, by rw [HR4.out]; simp only [ML.out]; rfl, ?_⟩
 simp only [ML.out]
 rw [← HM.out]
 exact hs.drop.drop.drop.drop
end Au
end Go.Proofs.YtakdoijemopejaaGreat
/- Layer 38: the reference's Finish on values. No condition but Go's own limits. -/
namespace Go.Proofs.YtakdoijemopejaaGreat
open Go Go.RowKit
namespace Au
open Se (St At Reads Cell)
open Li (v8 v8_one Rd Blk Fr)
open Bv (n8 n16 n32 n64)
variable {w0 w : World} {X : List Nat} {L M : List At}
attribute [local irreducible] Calls
def RFin (w0 : World) (X : List Nat) (L : List At) (A : Option Addr) (c : Nat) (R : Vs × Nat) (e : Ending) (w' : World) : Prop :=
 ∃ s', SOk R.1 s' ∧ e = .returned (.tuple #[.agg (rps R.1 s' A c).toArray, .int .i64 (R.2 : Nat)]) ∧ St w0 X L w'
theorem rps_36 {v : Vs} (h : v.n.length = 32) (s : ByteArray) (A : Option Addr) (c : Nat) : (rps v s A c)[36]? = some (.bool v.o) := by
 unfold rps rpc
 rw [List.getElem?_append_right (by simp [pcl, h])]
 simp [pcl, h]
theorem rps_nonce {v : Vs} (hn : v.n.length = 32) (s : ByteArray) (A : Option Addr) (c g : Nat) (T : TypeId) (L : List At) : Reads (.blk g T (rps v s A c) :: L) (some ⟨g, 4, none⟩) (v.n.map v8) := by
 have h := ((Reads.blk (L := .blk g T (rps v s A c) :: L) 0 rfl).at 4).take 32
 have e : ((rps v s A c).drop 4).take 32 = v.n.map v8 := by
  simp [rps, rpc, pcl, List.take_append, hn]
 rw [e] at h
 simpa using h
theorem b17 {b : Bs} (h : 8 ≤ b.length) : (b.drop 1).take 7 = (headL (hdOf b)).drop 1 := by
 rw [headL_hdOf h, List.drop_take]
theorem head_k (h : Hd) (k : BitVec 8) : (headL { h with k := k }).drop 1 = (headL h).drop 1 := by
 unfold headL
 simp [putL_length, List.drop_append]
theorem sent_ne {b : Bs} (h : 8 ≤ b.length) {v : Hd} (hk : v.k = 2#8) : decide ((b.drop 1).take 7 ≠ (headL v).drop 1) = decide ({ hdOf b with k := 2#8 } ≠ v) := by
 rw [b17 h, Bool.eq_iff_iff]
 simp only [decide_eq_true_eq]
 refine ⟨fun h1 h2 => h1 (by rw [← h2]; exact (head_k _ _).symm), fun h1 h2 => h1 ?_⟩
 apply headL_inj
 rw [← head_k _ 2#8] at h2
 have e : ∀ x : Hd, x.k = 2#8 → headL x = 2#8 :: (headL x).drop 1 := by
  intro x hx
  unfold headL
  rw [hx]
  simp [putL]
 rw [e _ rfl, h2, ← e v hk]
set_option maxRecDepth 100000 in
set_option maxHeartbeats 4000000 in
theorem rfin0_st (hs : St w0 X L w) (v : Vs) (s : ByteArray) (hS : SOk v s) (A B : Option Addr) (c n cb : Nat) (hv : v.n.length = 32) (b : Bs) (hn : n = b.length) (hB : Reads L B (b.map v8)) (hc : n ≤ cb) (hle : n ≤ 1000) (hE : parE b 3#8 1#8 1 ≠ 0 ∨ v.o = false) :
  Calls Tryz.prog 20 #[.agg (rps v s A c).toArray, .slice B n cb] w fun e w' => RFin w0 X L A c (finS v b) e w' := by
 obtain ⟨RV, hRV⟩ : ∃ RV, RV = rps v s A c := ⟨_, rfl⟩
 obtain ⟨Z, hZ⟩ : ∃ Z, Z = rpc ⟨[], ⟨#[]⟩, ⟨#[]⟩⟩ none 0 ⟨#[]⟩ z32 false false := ⟨_, rfl⟩
 obtain ⟨E, hEE⟩ : ∃ E, E = parE b 3#8 1#8 1 := ⟨_, rfl⟩
 have aI := Lib.hid rpI
 have ZL := Lib.hid (show Z.length = 38 by rw [hZ]; exact rpc_len rfl _ _ _ _ _ _)
 rw [← hZ] at aI
 have RL := Lib.hid (show RV.length = 38 by rw [hRV]; exact rpc_len hv _ _ _ _ _ _)
 have RO := Lib.hid (show ∀ x ∈ RV, x.oneCell' = true by rw [hRV]; exact rpc_one _ _ _ _ _ _ _)
 have R36 := Lib.hid (show RV[36]? = some (.bool v.o) by rw [hRV]; exact rps_36 hv _ _ _)
 have CC : Hid (∀ (M : List At) (w : World), St w0 X (M ++ L) w → Calls Tryz.prog 31 #[.slice B n cb, .int .u8 3, .int .i64 40] w fun e w' => e = .returned (.int .i64 (E : Nat)) ∧ St w0 X (M ++ L) w') := Lib.hid (fun M w hs => by
  rw [hEE]; exact rcheck_st (sz := 40) (np := 1) hs 3#8 hn (hB.app M) (fun _ => hc) (by omega) (by omega) rfl)
 rw [← hEE] at hE
 have HRV := Lib.hid hRV
 have HS := Lib.hid hS
 by_cases h0 : E = 0
 ·have ho : v.o = false := by rcases hE with h | h; exact absurd h0 h; exact h
  have HR := Lib.hid (show finS v b = (v, 8) by unfold finS; rw [← hEE, if_neg (by simp [h0]), if_pos ho])
  rw [HR.out, ← hRV]
  rw [ho] at R36
  rw [h0] at CC
  clear hE ho h0 hEE hRV hZ hB hn hS HR
  go_enter Tryz.func20, Tryz.ntmps20
  go_wp2_with (first | ((with_reducible refine Se.isL (o := ⟨some 4, _, _, _, _, _⟩) ?_); (refine Se.toL rfl (Se.al (o := ⟨some 4, _, _, _, _, _⟩) hs rfl (aI.out) ?_); clear hs; rintro w g4 - hs)) | ((with_reducible refine Se.isL (o := ⟨some 15, _, _, _, _, _⟩) ?_); (refine Se.toL rfl (Se.ld (o := ⟨some 15, _, _, _, _, _⟩) hs rfl rfl (Cell.blk 1 rfl R36.out) (by kernel_rfl) ?_))) | ((with_reducible refine Se.isL (o := ⟨some 17, _, _, _, _, _⟩) ?_); (refine Se.toL rfl (Se.ldw (o := ⟨some 17, _, _, _, _, _⟩) hs rfl rfl ((Reads.blk 1 rfl)) ((by rw [RL.out]; kernel_rfl)) (by kernel_rfl) ?_))) | ((with_reducible refine Se.isL (o := ⟨none, _, _, _, _, _⟩) ?_); (refine Se.toL rfl (Se.sow 0 hs rfl rfl rfl rfl (RO.out) ((by rw [RL.out]; kernel_rfl)) ((by rw [RL.out, ZL.out])) ?_); clear hs; intro w hs; try simp only [List.cons_append, List.nil_append, List.set_cons_zero] at hs)) | ((first | with_reducible refine Se.ab hs ?_ | with_reducible refine Se.abc hs ?_); clear hs; (first | (generalize w.heap.size = g2; intro w hs))) | (go_at_call 31; refine Calls.mono (CC.out [_, _] _ hs) ?_; clear hs; rintro e w ⟨rfl, hs⟩))
  refine Se.ret hs [.agg RV.toArray, .int .i64 8] rfl ⟨Se.resRow rfl (Reads.blk 0 rfl) (by kernel_rfl) (by rw [RL.out]; kernel_rfl), rfl, trivial⟩ (by simp) rfl ?_
  exact ⟨s, HS.out, by rw [HRV.out]; rfl, hs.drop.drop⟩
 ·have hne : ((E : Int) != 0) = true := int_ne h0
  have HR := Lib.hid (show finS v b = (v, E) by unfold finS; rw [← hEE, if_pos h0])
  rw [HR.out, ← hRV]
  clear hE h0 hEE hRV hZ hB hn hS HR
  go_enter Tryz.func20, Tryz.ntmps20
  go_wp2_with (first | ((with_reducible refine Se.isL (o := ⟨some 4, _, _, _, _, _⟩) ?_); (refine Se.toL rfl (Se.al (o := ⟨some 4, _, _, _, _, _⟩) hs rfl (aI.out) ?_); clear hs; rintro w g4 - hs)) | ((with_reducible refine Se.isL (o := ⟨some 12, _, _, _, _, _⟩) ?_); (refine Se.toL rfl (Se.ldw (o := ⟨some 12, _, _, _, _, _⟩) hs rfl rfl ((Reads.blk 1 rfl)) ((by rw [RL.out]; kernel_rfl)) (by kernel_rfl) ?_))) | ((with_reducible refine Se.isL (o := ⟨none, _, _, _, _, _⟩) ?_); (refine Se.toL rfl (Se.sow 0 hs rfl rfl rfl rfl (RO.out) ((by rw [RL.out]; kernel_rfl)) ((by rw [RL.out, ZL.out])) ?_); clear hs; intro w hs; try simp only [List.cons_append, List.nil_append, List.set_cons_zero] at hs)) | ((first | with_reducible refine Se.ab hs ?_ | with_reducible refine Se.abc hs ?_); clear hs; (first | (generalize w.heap.size = g2; intro w hs))) | (go_at_call 31; refine Calls.mono (CC.out [_, _] _ hs) ?_; clear hs; rintro e w ⟨rfl, hs⟩))
  refine Se.ret hs [.agg RV.toArray, .int .i64 E] rfl ⟨Se.resRow rfl (Reads.blk 0 rfl) (by kernel_rfl) (by rw [RL.out]; kernel_rfl), rfl, trivial⟩ (by simp) rfl ?_
  exact ⟨s, HS.out, by rw [HRV.out], hs.drop.drop⟩
set_option maxRecDepth 100000 in
set_option maxHeartbeats 4000000 in
theorem rfin1_st (hs : St w0 X L w) (v : Vs) (s : ByteArray) (hS : SOk v s) (A B : Option Addr) (c n cb : Nat) (hv : v.n.length = 32) (hr : Reads L A (v.p.sec.map v8)) (hk : v.p.sec.length ≤ 1000) (ha : v.p.hs.size ≤ 240) (hb2 : v.p.sb.size ≤ 240) (b : Bs) (hn : n = b.length) (hB : Reads L B (b.map v8)) (hc : n ≤ cb) (hE : parE b 3#8 1#8 1 = 0) (ho : v.o = true) :
  Calls Tryz.prog 20 #[.agg (rps v s A c).toArray, .slice B n cb] w fun e w' => RFin w0 X L A c (finS v b) e w' := by
 have hl : b.length = 40 := parE_len hE
 obtain rfl : n = 40 := by omega
 obtain ⟨gB, oB, rfl⟩ : ∃ g o, B = some ⟨g, o, none⟩ := by
  obtain ⟨g, o, h, _⟩ := Rd_cell (hB w hs.hold) 0 (v8_at b 0 (by omega))
  exact ⟨g, o, h⟩
 obtain ⟨hs1, hs2⟩ := hS ho
 obtain ⟨D1, hD1⟩ : ∃ D1, D1 = decide ((b.drop 1).take 7 ≠ (headL v.h).drop 1) := ⟨_, rfl⟩
 have hD1' := hD1.trans (sent_ne (b := b) (by omega) hs2)
 obtain ⟨v1, hv1⟩ : ∃ v1 : Vs, v1 = { v with o := false } := ⟨_, rfl⟩
 obtain ⟨v2, hv2⟩ : ∃ v2 : Vs, v2 = { v with o := false, d := true } := ⟨_, rfl⟩
 obtain ⟨D2, hD2⟩ : ∃ D2, D2 = decide (prt b 0 ≠ resp v.p.py v.n { hdOf b with k := 2#8 } 67#8) := ⟨_, rfl⟩
 obtain ⟨b1, hb1⟩ : ∃ x, x = b.getD 1 0#8 := ⟨_, rfl⟩
 have hf1 : (hdOf b).f = b1 := by rw [hb1]; exact hd_f b (by omega)
 obtain ⟨F, hF⟩ : ∃ F, F = finS v b := ⟨_, rfl⟩
 have HF : Hid (F = if D1 = true then (v1, 3) else if b1 = 1#8 ∧ D2 = true then (v1, 10) else (v2, 0)) := Lib.hid (by
  rw [hF, hD1', hD2, hv1, hv2, ← hf1]
  unfold finS
  rw [if_neg (by simp [hE]), if_neg (by simp [ho])]
  simp only [decide_eq_true_eq])
 obtain ⟨q, hq⟩ : ∃ q, q = (hdOf b).q := ⟨_, rfl⟩
 obtain ⟨sq, hsq⟩ : ∃ sq, sq = (hdOf b).s := ⟨_, rfl⟩
 obtain ⟨X1, hX1⟩ : ∃ X1, X1 = (b.drop 1).take 7 := ⟨_, rfl⟩
 obtain ⟨X2, hX2⟩ : ∃ X2, X2 = (headL v.h).drop 1 := ⟨_, rfl⟩
 rw [← hX1, ← hX2] at hD1
 rw [← hX2] at hs1
 have HD1 := Lib.hid hD1
 have X1L := Lib.hid (show 7 = X1.length by rw [hX1]; simp; omega)
 have HB1 := Lib.hid (show Reads L (some ⟨gB, oB + 1, none⟩) (X1.map v8) by rw [hX1, List.map_take, List.map_drop]; exact (hB.at 1).take 7)
 obtain ⟨RV, hRV⟩ : ∃ RV, RV = rps v s A c := ⟨_, rfl⟩
 obtain ⟨R1, hR1⟩ : ∃ R1, R1 = rps v1 s A c := ⟨_, rfl⟩
 obtain ⟨R2, hR2⟩ : ∃ R2, R2 = rps v2 s A c := ⟨_, rfl⟩
 obtain ⟨NV, hNV⟩ : ∃ NV, NV = v.n.map v8 := ⟨_, rfl⟩
 obtain ⟨PL, hPL⟩ : ∃ PL, PL = pcl v.p A c := ⟨_, rfl⟩
 obtain ⟨RPV, hRPV⟩ : ∃ RPV, RPV = (resp v.p.py v.n { hdOf b with k := 2#8 } 67#8).map v8 := ⟨_, rfl⟩
 obtain ⟨P0V, hP0V⟩ : ∃ P0V, P0V = (prt b 0).map v8 := ⟨_, rfl⟩
 obtain ⟨Z, hZ⟩ : ∃ Z, Z = rpc ⟨[], ⟨#[]⟩, ⟨#[]⟩⟩ none 0 ⟨#[]⟩ z32 false false := ⟨_, rfl⟩
 have aI := Lib.hid rpI
 have ZL := Lib.hid (show Z.length = 38 by rw [hZ]; exact rpc_len rfl _ _ _ _ _ _)
 rw [← hZ] at aI
 have RL := Lib.hid (show RV.length = 38 by rw [hRV]; exact rpc_len hv _ _ _ _ _ _)
 have R1L := Lib.hid (show R1.length = 38 by rw [hR1, hv1]; exact rpc_len hv _ _ _ _ _ _)
 have R2L := Lib.hid (show R2.length = 38 by rw [hR2, hv2]; exact rpc_len hv _ _ _ _ _ _)
 have R1O := Lib.hid (show ∀ x ∈ R1, x.oneCell' = true by rw [hR1]; exact rpc_one _ _ _ _ _ _ _)
 have R2O := Lib.hid (show ∀ x ∈ R2, x.oneCell' = true by rw [hR2]; exact rpc_one _ _ _ _ _ _ _)
 have R36 := Lib.hid (show RV[36]? = some (.bool true) by rw [hRV, ← ho]; exact rps_36 hv _ _ _)
 have E1 := Lib.hid (show RV.set 36 (.bool false) = R1 by rw [hRV, hR1, hv1]; exact rpc_setO hv _ _ _ _ _ _ _)
 have E2 := Lib.hid (show R1.set 37 (.bool true) = R2 by rw [hR1, hR2, hv1, hv2]; exact rpc_setD hv _ _ _ _ _ _ _)
 have R13 := Lib.hid (show R1[3]? = some (.string (toS X2)) by rw [hR1, ← hs1]; rfl)
 have RP1 := Lib.hid (show ∀ L g, Reads (.blk g 46 R1 :: L) (some ⟨g, 0, none⟩) PL by intro L g; rw [hR1, hPL, hv1]; exact rps_party { v with o := false } s A c g _ L)
 have RN1 := Lib.hid (show ∀ L g, Reads (.blk g 46 R1 :: L) (some ⟨g, 4, none⟩) NV by intro L g; rw [hR1, hNV, hv1]; exact rps_nonce (v := { v with o := false }) hv s A c g _ L)
 have NL := Lib.hid (show NV.length = 32 by rw [hNV]; simpa using hv)
 have PLL := Lib.hid (show PL.length = 3 by rw [hPL]; rfl)
 have hprt : (prt b 0).length = 32 := prt_len (np := 1) hl (by omega)
 have hne2 : ∀ w, (binOp .neq 34 (.agg P0V.toArray) (.agg RPV.toArray)).run Tryz.prog w = .ok (.bool D2) w := by
  intro w; rw [hP0V, hRPV, hD2]; exact neB w hprt (resp_len _ _ _ _)
 have CC : Hid (∀ (M : List At) (w : World), St w0 X (M ++ L) w → Calls Tryz.prog 31 #[.slice (some ⟨gB, oB, none⟩) 40 cb, .int .u8 3, .int .i64 40] w fun e w' => e = .returned (.int .i64 0) ∧ St w0 X (M ++ L) w') := Lib.hid (fun M w hs => by
  have h := rcheck_st (sz := 40) (np := 1) hs 3#8 hn (hB.app M) (fun _ => hc) (by omega) (by omega) rfl
  rw [show (if (3#8 : BitVec 8) = 1#8 then 0#8 else 1#8) = 1#8 from rfl, hE] at h
  exact h)
 have CW : Hid (∀ (M : List At) (w : World), St w0 X (M ++ L) w → Calls Tryz.prog 32 #[.slice (some ⟨gB, oB, none⟩) 40 cb] w fun e w' => e = .returned (.int .u32 (n32 sq)) ∧ St w0 X (M ++ L) w') := Lib.hid (fun M w hs => by rw [hsq]; exact rword_st hs hn (hB.app M) (by omega))
 have CP : Hid (∀ (M : List At) (w : World), St w0 X (M ++ L) w → Calls Tryz.prog 33 #[.slice (some ⟨gB, oB, none⟩) 40 cb, .int .i64 8] w fun e w' => e = .returned (.agg P0V.toArray) ∧ St w0 X (M ++ L) w') := Lib.hid (fun M w hs => by rw [hP0V]; exact rpart_st (k := 8) hs hn (hB.app M) (by omega) (by omega))
 have CR : Hid (∀ (M : List At) (w : World), St w0 X (M ++ L) w → Calls Tryz.prog 24 #[.agg PL.toArray, .agg NV.toArray, .int .u32 (n32 sq), .int .u16 (n16 q), .bool true] w fun e w' => e = .returned (.agg RPV.toArray) ∧ St w0 X (M ++ L) w') := Lib.hid (fun M w hs => by
  rw [hPL, hNV, hRPV, hsq, hq, show resp v.p.py v.n { hdOf b with k := 2#8 } 67#8 = resp v.p.py v.n ⟨0#8, 0#8, (hdOf b).q, (hdOf b).s⟩ 67#8 from resp_eq _ _ rfl rfl]
  exact rresp_st hs v.p A c v.n _ _ true (hr.app M) hk hv ha hb2)
 obtain ⟨b2, hb2'⟩ : ∃ x, x = b.getD 2 0#8 := ⟨_, rfl⟩
 obtain ⟨b3, hb3⟩ : ∃ x, x = b.getD 3 0#8 := ⟨_, rfl⟩
 have C1 := Lib.hid (show Cell L gB (oB + 1) (.int .u8 (n8 b1)) by rw [hb1]; exact hB.cell 1 (v8_at b 1 (by omega)))
 have C2 := Lib.hid (show Cell L gB (oB + 2) (.int .u8 (n8 b2)) by rw [hb2']; exact hB.cell 2 (v8_at b 2 (by omega)))
 have C3 := Lib.hid (show Cell L gB (oB + 3) (.int .u8 (n8 b3)) by rw [hb3]; exact hB.cell 3 (v8_at b 3 (by omega)))
 have HQ := Lib.hid (show n16 q = (b2.toNat : Int) + 256 * b3.toNat by rw [hq, hb2', hb3, ← get2 b (by omega)]; rfl)
 have HR1 := Lib.hid hR1
 have HR2 := Lib.hid hR2
 have HO1 := Lib.hid (show SOk v1 s by intro h; rw [hv1] at h; cases h)
 have HO2 := Lib.hid (show SOk v2 s by intro h; rw [hv2] at h; cases h)
 have hcb : Hid (40 ≤ cb) := Lib.hid hc
 rw [← hF, ← hRV]
 clear hE hl hs1 hs2 hD1 hD1' hv1 hv2 hD2 hb1 hf1 hF hq hsq hX1 hX2 hRV hR1 hR2 hNV hPL hRPV hP0V hZ hprt hb2' hb3 hB hn hr hk ha hb2 hv ho hS
 have i1 : (8 : Int) ≤ (cb : Int) := by have := hcb.out; omega
 have i2 : cb ≠ 1 := by have := hcb.out; omega
 have i3 : 1 < cb := by have := hcb.out; omega
 go_enter Tryz.func20, Tryz.ntmps20
 go_upto_region 7 with (first | ((with_reducible refine Se.isL (o := ⟨some 4, _, _, _, _, _⟩) ?_); (refine Se.toL rfl (Se.al (o := ⟨some 4, _, _, _, _, _⟩) hs rfl (aI.out) ?_); clear hs; rintro w g4 - hs)) | ((with_reducible refine Se.isL (o := ⟨some 15, _, _, _, _, _⟩) ?_); (refine Se.toL rfl (Se.ld (o := ⟨some 15, _, _, _, _, _⟩) hs rfl rfl (Cell.blk 1 rfl R36.out) (by kernel_rfl) ?_))) | ((with_reducible refine Se.isL (o := ⟨none, _, _, _, _, _⟩) ?_); ((first | refine Se.toL rfl (Se.soq 1 (v := .int _ _) hs rfl rfl rfl rfl rfl (by kernel_rfl) ((by rw [RL.out]; omega)) (E1.out) ?_) | refine Se.toL rfl (Se.soq 1 (v := .bool _) hs rfl rfl rfl rfl rfl (by kernel_rfl) ((by rw [RL.out]; omega)) (E1.out) ?_) | refine Se.toL rfl (Se.soq 1 (v := .slice _ _ _) hs rfl rfl rfl rfl rfl (by kernel_rfl) ((by rw [RL.out]; omega)) (E1.out) ?_) | refine Se.toL rfl (Se.soq 1 (v := .pointer _) hs rfl rfl rfl rfl rfl (by kernel_rfl) ((by rw [RL.out]; omega)) (E1.out) ?_) | refine Se.toL rfl (Se.soq 1 (v := .string _) hs rfl rfl rfl rfl rfl (by kernel_rfl) ((by rw [RL.out]; omega)) (E1.out) ?_) | refine Se.toL rfl (Se.soq 1 (v := .map _) hs rfl rfl rfl rfl rfl (by kernel_rfl) ((by rw [RL.out]; omega)) (E1.out) ?_) | refine Se.toL rfl (Se.soq 1 (v := .func _ _ _) hs rfl rfl rfl rfl rfl (by kernel_rfl) ((by rw [RL.out]; omega)) (E1.out) ?_) | refine Se.toL rfl (Se.soq 1 (v := .nilFunc) hs rfl rfl rfl rfl rfl (by kernel_rfl) ((by rw [RL.out]; omega)) (E1.out) ?_)); clear hs; intro w hs; try simp only [List.cons_append, List.nil_append, List.set_cons_zero, List.set_cons_succ] at hs)) | ((first | with_reducible refine Se.ab hs ?_ | with_reducible refine Se.abc hs ?_); clear hs; (first | (generalize w.heap.size = g2; intro w hs))) | (go_at_call 31; refine Calls.mono (CC.out [_, _] _ hs) ?_; clear hs; rintro e w ⟨rfl, hs⟩))
 clear CC R36 E1
 refine Ch.region' 6 (fun wx => Blk wx g2 R1 46 ∧ Rd wx (some ⟨gB, oB + 1, none⟩) (X1.map v8)) (fun  | _ => false) (by kernel_rfl) (by decide +kernel) (⟨hs.drew.hold (.blk g2 46 R1) (by simp), (HB1.out.cons _).cons _ _ hs.drew.hold⟩) ?_
 replace hs := hs.drew
 generalize w.drew = w at hs ⊢
 change Ch.CW _ _ _ _ _ [0, 1, 2, 3, 4, 5] _ _
 iterate 2 ((first | (refine Ch.pure (v := ?_) (by rfl) (by rfl) (by rfl) (fun wx hS => ?_) ?_; rotate_left; (focus (go_simp; (first | done | with_reducible rfl))))); (try simp only [Act.put, List.setIfInBounds_toArray, List.set_cons_zero, List.set_cons_succ]))
 refine Ch.pure (v := .string (toS X1)) (by rfl) (by rfl) (by rfl) (fun wx hS => xcs rfl rfl X1L.out hS.2) ?_
 (try simp only [Act.put, List.setIfInBounds_toArray, List.set_cons_zero, List.set_cons_succ])
 iterate 2 ((first | (refine Ch.pure (v := ?_) (by rfl) (by rfl) (by rfl) (fun wx hS => ?_) ?_; rotate_left; (focus (go_simp; (first | done | with_reducible rfl)))) | refine Ch.pure (v := _) (by rfl) (by rfl) (by rfl) (fun wx hS => Se.xl rfl rfl ((hS.1.cell _).trans R13.out) (by decide +kernel)) ?_); (try simp only [Act.put, List.setIfInBounds_toArray, List.set_cons_zero, List.set_cons_succ]))
 refine Ch.pure (v := .bool D1) (by rfl) (by rfl) (by rfl) (fun wx hS => xsne rfl rfl rfl HD1.out) ?_
 (try simp only [Act.put, List.setIfInBounds_toArray, List.set_cons_zero, List.set_cons_succ])
 refine Ch.done ?_
 try simp only [List.drop_succ_cons, List.drop_zero]
 clear i1 i2 i3 X1L HB1 HD1
 cases D1 with
 | true =>
  have HF2 := Lib.hid (show F = (v1, 3) by rw [HF.out, if_pos rfl])
  go_wp2_with (first | ((with_reducible refine Se.isL (o := ⟨some 25, _, _, _, _, _⟩) ?_); (refine Se.toL rfl (Se.ldw (o := ⟨some 25, _, _, _, _, _⟩) hs rfl rfl ((Reads.blk 1 rfl)) ((by rw [R1L.out]; kernel_rfl)) (by kernel_rfl) ?_))) | ((with_reducible refine Se.isL (o := ⟨none, _, _, _, _, _⟩) ?_); (refine Se.toL rfl (Se.sow 0 hs rfl rfl rfl rfl (R1O.out) ((by rw [R1L.out]; kernel_rfl)) ((by rw [R1L.out, ZL.out])) ?_); clear hs; intro w hs; try simp only [List.cons_append, List.nil_append, List.set_cons_zero] at hs)))
  refine Se.ret hs [.agg R1.toArray, .int .i64 3] rfl ⟨Se.resRow rfl (Reads.blk 0 rfl) (by kernel_rfl) (by rw [R1L.out]; kernel_rfl), rfl, trivial⟩ (by simp) rfl ?_
  rw [HF2.out]
  exact ⟨s, HO1.out, by rw [HR1.out]; rfl, hs.drop.drop⟩
 | false =>
 have HF3 := Lib.hid (show F = _ by rw [HF.out, if_neg (by simp)])
 clear HF
 have hwq : IntKind.u16.wrap (IntKind.u16.wrap (n8 b2) + IntKind.u16.wrap (256 * IntKind.u16.wrap (n8 b3))) = n16 q := by
  rw [HQ.out]
  have := b2.isLt
  have := b3.isLt
  unfold n8
  simp [IntKind.wrap, IntKind.bits, IntKind.signed]
  omega
 go_upto_region 9 with (fail)
 refine Ch.region' 11 (fun wx => wx.cell? ⟨gB, oB + 2, none⟩ = some (.int .u8 (n8 b2)) ∧ wx.cell? ⟨gB, oB + 3, none⟩ = some (.int .u8 (n8 b3))) (fun  | _ => false) (by kernel_rfl) (by decide +kernel) (⟨cell_app C2.out [_, _] _ hs.drew.hold, cell_app C3.out [_, _] _ hs.drew.hold⟩) ?_
 replace hs := hs.drew
 generalize w.drew = w at hs ⊢
 change Ch.CW _ _ _ _ _ [0, 1, 2, 3, 4, 5, 6, 7, 8, 9, 10] _ _
 iterate 11 ((first | (refine Ch.pure (v := ?_) (by rfl) (by rfl) (by rfl) (fun wx hS => ?_) ?_; rotate_left; (focus (go_simp; (first | done | with_reducible rfl)))) | refine Ch.pure (v := _) (by rfl) (by rfl) (by rfl) (fun wx hS => Se.xl rfl rfl hS.1 (by decide +kernel)) ?_ | refine Ch.pure (v := _) (by rfl) (by rfl) (by rfl) (fun wx hS => Se.xl rfl rfl hS.2 (by decide +kernel)) ?_); (try simp only [Act.put, List.setIfInBounds_toArray, List.set_cons_zero, List.set_cons_succ]))
 refine Ch.done ?_
 try simp only [List.drop_succ_cons, List.drop_zero]
 by_cases hb1 : b1 = 1#8
 ·have d1 : (n8 b1 == 1) = true := by rw [hb1]; rfl
  go_upto_region 10 with (fail)
  clear hwq
  refine Ch.region' 17 (fun wx => Rd wx (some ⟨g2, 0, none⟩) PL ∧ Rd wx (some ⟨g2, 4, none⟩) NV ∧ wx.cell? ⟨gB, oB + 1, none⟩ = some (.int .u8 (n8 b1))) (fun | 6 => true | 12 => true | 14 => true | _ => false) (by kernel_rfl) (by decide +kernel) (⟨((RP1.out _ _).app [_]) _ hs.drew.hold, ((RN1.out _ _).app [_]) _ hs.drew.hold, cell_app C1.out [_, _] _ hs.drew.hold⟩) ?_
  replace hs := hs.drew
  generalize w.drew = w at hs ⊢
  change Ch.CW _ _ _ _ _ [0, 1, 2, 3, 4, 5, 6, 7, 8, 9, 10, 11, 12, 13, 14, 15, 16] _ _
  iterate 6 ((first | (refine Ch.pure (v := ?_) (by rfl) (by rfl) (by rfl) (fun wx hS => ?_) ?_; rotate_left; (focus (go_simp; (first | done | with_reducible rfl)))) | refine Ch.pure (v := _) (by rfl) (by rfl) (by rfl) (fun wx hS => Se.xl rfl rfl hS.2.2 (by decide +kernel)) ?_); (try simp only [Act.put, List.setIfInBounds_toArray, List.set_cons_zero, List.set_cons_succ]))
  refine Ch.noise (by rfl) (by rfl) (by rfl) ?_
  refine Se.gcall (f := 33) (args := #[.slice (some ⟨gB, oB, none⟩) 40 cb, .int .i64 8]) ?_ ?_
  ·go_simp
  refine Calls.mono (CP.out [_, _] _ hs) ?_
  clear hs
  rintro e w ⟨rfl, hs⟩
  refine ⟨_, rfl, ⟨((RP1.out _ _).app [_]) _ hs.hold, ((RN1.out _ _).app [_]) _ hs.hold, cell_app C1.out [_, _] _ hs.hold⟩, ?_⟩
  (try simp only [Act.put, List.setIfInBounds_toArray, List.set_cons_zero, List.set_cons_succ])
  iterate 5 ((first | (refine Ch.pure (v := ?_) (by rfl) (by rfl) (by rfl) (fun wx hS => ?_) ?_; rotate_left; (focus (go_simp; (first | done | with_reducible rfl)))) | refine Ch.pure (v := _) (by rfl) (by rfl) (by rfl) (fun wx hS => Se.xla rfl rfl hS.1 (by rw [PLL.out]; kernel_rfl) (by decide +kernel)) ?_ | refine Ch.pure (v := _) (by rfl) (by rfl) (by rfl) (fun wx hS => Se.xla rfl rfl hS.2.1 (by rw [NL.out]; kernel_rfl) (by decide +kernel)) ?_); (try simp only [Act.put, List.setIfInBounds_toArray, List.set_cons_zero, List.set_cons_succ]))
  refine Ch.noise (by rfl) (by rfl) (by rfl) ?_
  refine Se.gcall (f := 32) (args := #[.slice (some ⟨gB, oB, none⟩) 40 cb]) ?_ ?_
  ·go_simp
  refine Calls.mono (CW.out [_, _] _ hs) ?_
  clear hs
  rintro e w ⟨rfl, hs⟩
  refine ⟨_, rfl, ⟨((RP1.out _ _).app [_]) _ hs.hold, ((RN1.out _ _).app [_]) _ hs.hold, cell_app C1.out [_, _] _ hs.hold⟩, ?_⟩
  (try simp only [Act.put, List.setIfInBounds_toArray, List.set_cons_zero, List.set_cons_succ])
  iterate 1 ((first | (refine Ch.pure (v := ?_) (by rfl) (by rfl) (by rfl) (fun wx hS => ?_) ?_; rotate_left; (focus (go_simp; (first | done | with_reducible rfl))))); (try simp only [Act.put, List.setIfInBounds_toArray, List.set_cons_zero, List.set_cons_succ]))
  refine Ch.noise (by rfl) (by rfl) (by rfl) ?_
  refine Se.gcall (f := 24) (args := #[.agg PL.toArray, .agg NV.toArray, .int .u32 (n32 sq), .int .u16 (n16 q), .bool true]) ?_ ?_
  ·go_simp
  refine Calls.mono (CR.out [_, _] _ hs) ?_
  clear hs
  rintro e w ⟨rfl, hs⟩
  refine ⟨_, rfl, ⟨((RP1.out _ _).app [_]) _ hs.hold, ((RN1.out _ _).app [_]) _ hs.hold, cell_app C1.out [_, _] _ hs.hold⟩, ?_⟩
  (try simp only [Act.put, List.setIfInBounds_toArray, List.set_cons_zero, List.set_cons_succ])
  iterate 2 (refine Ch.pure (v := ?_) (by rfl) (by rfl) (by rfl) (fun wx hS => ?_) ?_; rotate_left; (focus (go_simp; (first | done | with_reducible rfl))); (try simp only [Act.put, List.setIfInBounds_toArray, List.set_cons_zero, List.set_cons_succ]))
  refine Ch.done ?_
  try simp only [List.drop_succ_cons, List.drop_zero]
  clear CP CW CR RN1 RP1
  cases D2 with
  | true =>
   have HF2 := Lib.hid (show F = (v1, 10) by rw [HF3.out, if_pos ⟨hb1, rfl⟩])
   clear hb1
   go_wp2_with (first | ((with_reducible refine Se.isL (o := ⟨some 53, _, _, _, _, _⟩) ?_); (refine Se.toL rfl (Se.ldw (o := ⟨some 53, _, _, _, _, _⟩) hs rfl rfl ((Reads.blk 1 rfl)) ((by rw [R1L.out]; kernel_rfl)) (by kernel_rfl) ?_))) | ((with_reducible refine Se.isL (o := ⟨none, _, _, _, _, _⟩) ?_); (refine Se.toL rfl (Se.sow 0 hs rfl rfl rfl rfl (R1O.out) ((by rw [R1L.out]; kernel_rfl)) ((by rw [R1L.out, ZL.out])) ?_); clear hs; intro w hs; try simp only [List.cons_append, List.nil_append, List.set_cons_zero] at hs)))
   refine Se.ret hs [.agg R1.toArray, .int .i64 10] rfl ⟨Se.resRow rfl (Reads.blk 0 rfl) (by kernel_rfl) (by rw [R1L.out]; kernel_rfl), rfl, trivial⟩ (by simp) rfl ?_
   rw [HF2.out]
   exact ⟨s, HO1.out, by rw [HR1.out]; rfl, hs.drop.drop⟩
  | false =>
   have HF2 := Lib.hid (show F = (v2, 0) by rw [HF3.out, if_neg (by simp)])
   clear hb1
   go_upto_region 13 with (first | ((with_reducible refine Se.isL (o := ⟨none, _, _, _, _, _⟩) ?_); ((first | refine Se.toL rfl (Se.soq 1 (v := .int _ _) hs rfl rfl rfl rfl rfl (by kernel_rfl) ((by rw [R1L.out]; omega)) (E2.out) ?_) | refine Se.toL rfl (Se.soq 1 (v := .bool _) hs rfl rfl rfl rfl rfl (by kernel_rfl) ((by rw [R1L.out]; omega)) (E2.out) ?_) | refine Se.toL rfl (Se.soq 1 (v := .slice _ _ _) hs rfl rfl rfl rfl rfl (by kernel_rfl) ((by rw [R1L.out]; omega)) (E2.out) ?_) | refine Se.toL rfl (Se.soq 1 (v := .pointer _) hs rfl rfl rfl rfl rfl (by kernel_rfl) ((by rw [R1L.out]; omega)) (E2.out) ?_) | refine Se.toL rfl (Se.soq 1 (v := .string _) hs rfl rfl rfl rfl rfl (by kernel_rfl) ((by rw [R1L.out]; omega)) (E2.out) ?_) | refine Se.toL rfl (Se.soq 1 (v := .map _) hs rfl rfl rfl rfl rfl (by kernel_rfl) ((by rw [R1L.out]; omega)) (E2.out) ?_) | refine Se.toL rfl (Se.soq 1 (v := .func _ _ _) hs rfl rfl rfl rfl rfl (by kernel_rfl) ((by rw [R1L.out]; omega)) (E2.out) ?_) | refine Se.toL rfl (Se.soq 1 (v := .nilFunc) hs rfl rfl rfl rfl rfl (by kernel_rfl) ((by rw [R1L.out]; omega)) (E2.out) ?_)); clear hs; intro w hs; try simp only [List.cons_append, List.nil_append, List.set_cons_zero, List.set_cons_succ] at hs)))
   go_wp2_with (first | ((with_reducible refine Se.isL (o := ⟨some 55, _, _, _, _, _⟩) ?_); (refine Se.toL rfl (Se.ldw (o := ⟨some 55, _, _, _, _, _⟩) hs rfl rfl ((Reads.blk 1 rfl)) ((by rw [R2L.out]; kernel_rfl)) (by kernel_rfl) ?_))) | ((with_reducible refine Se.isL (o := ⟨none, _, _, _, _, _⟩) ?_); (refine Se.toL rfl (Se.sow 0 hs rfl rfl rfl rfl (R2O.out) ((by rw [R2L.out]; kernel_rfl)) ((by rw [R2L.out, ZL.out])) ?_); clear hs; intro w hs; try simp only [List.cons_append, List.nil_append, List.set_cons_zero] at hs)))
   refine Se.ret hs [.agg R2.toArray, .int .i64 0] rfl ⟨Se.resRow rfl (Reads.blk 0 rfl) (by kernel_rfl) (by rw [R2L.out]; kernel_rfl), rfl, trivial⟩ (by simp) rfl ?_
   rw [HF2.out]
   exact ⟨s, HO2.out, by rw [HR2.out]; rfl, hs.drop.drop⟩
 ·have d1 : (n8 b1 == 1) = false := by rw [show (1 : Int) = n8 1#8 from rfl, Bv.n8_beq]; simpa using hb1
  have HF2 := Lib.hid (show F = (v2, 0) by rw [HF3.out, if_neg (fun h => hb1 h.1)])
  clear hb1
  go_upto_region 10 with (fail)
  clear hwq
  refine Ch.region' 17 (fun wx => Rd wx (some ⟨g2, 0, none⟩) PL ∧ Rd wx (some ⟨g2, 4, none⟩) NV ∧ wx.cell? ⟨gB, oB + 1, none⟩ = some (.int .u8 (n8 b1))) (fun | 6 => true | 12 => true | 14 => true | _ => false) (by kernel_rfl) (by decide +kernel) (⟨((RP1.out _ _).app [_]) _ hs.drew.hold, ((RN1.out _ _).app [_]) _ hs.drew.hold, cell_app C1.out [_, _] _ hs.drew.hold⟩) ?_
  replace hs := hs.drew
  generalize w.drew = w at hs ⊢
  change Ch.CW _ _ _ _ _ [0, 1, 2, 3, 4, 5, 6, 7, 8, 9, 10, 11, 12, 13, 14, 15, 16] _ _
  iterate 5 ((first | (refine Ch.pure (v := ?_) (by rfl) (by rfl) (by rfl) (fun wx hS => ?_) ?_; rotate_left; (focus (go_simp; (first | done | with_reducible rfl)))) | refine Ch.pure (v := _) (by rfl) (by rfl) (by rfl) (fun wx hS => Se.xl rfl rfl hS.2.2 (by decide +kernel)) ?_); (try simp only [Act.put, List.setIfInBounds_toArray, List.set_cons_zero, List.set_cons_succ]))
  iterate 11 (refine Ch.skip (by rfl) (by rfl) ?_; (try simp only [Act.put, List.setIfInBounds_toArray, List.set_cons_zero, List.set_cons_succ]))
  iterate 1 (refine Ch.pure (v := ?_) (by rfl) (by rfl) (by rfl) (fun wx hS => ?_) ?_; rotate_left; (focus (go_simp; (first | done | with_reducible rfl))); (try simp only [Act.put, List.setIfInBounds_toArray, List.set_cons_zero, List.set_cons_succ]))
  refine Ch.done ?_
  try simp only [List.drop_succ_cons, List.drop_zero]
  clear CP CW CR RN1 RP1
  go_upto_region 13 with (first | ((with_reducible refine Se.isL (o := ⟨none, _, _, _, _, _⟩) ?_); ((first | refine Se.toL rfl (Se.soq 1 (v := .int _ _) hs rfl rfl rfl rfl rfl (by kernel_rfl) ((by rw [R1L.out]; omega)) (E2.out) ?_) | refine Se.toL rfl (Se.soq 1 (v := .bool _) hs rfl rfl rfl rfl rfl (by kernel_rfl) ((by rw [R1L.out]; omega)) (E2.out) ?_) | refine Se.toL rfl (Se.soq 1 (v := .slice _ _ _) hs rfl rfl rfl rfl rfl (by kernel_rfl) ((by rw [R1L.out]; omega)) (E2.out) ?_) | refine Se.toL rfl (Se.soq 1 (v := .pointer _) hs rfl rfl rfl rfl rfl (by kernel_rfl) ((by rw [R1L.out]; omega)) (E2.out) ?_) | refine Se.toL rfl (Se.soq 1 (v := .string _) hs rfl rfl rfl rfl rfl (by kernel_rfl) ((by rw [R1L.out]; omega)) (E2.out) ?_) | refine Se.toL rfl (Se.soq 1 (v := .map _) hs rfl rfl rfl rfl rfl (by kernel_rfl) ((by rw [R1L.out]; omega)) (E2.out) ?_) | refine Se.toL rfl (Se.soq 1 (v := .func _ _ _) hs rfl rfl rfl rfl rfl (by kernel_rfl) ((by rw [R1L.out]; omega)) (E2.out) ?_) | refine Se.toL rfl (Se.soq 1 (v := .nilFunc) hs rfl rfl rfl rfl rfl (by kernel_rfl) ((by rw [R1L.out]; omega)) (E2.out) ?_)); clear hs; intro w hs; try simp only [List.cons_append, List.nil_append, List.set_cons_zero, List.set_cons_succ] at hs)))
  go_wp2_with (first | ((with_reducible refine Se.isL (o := ⟨some 55, _, _, _, _, _⟩) ?_); (refine Se.toL rfl (Se.ldw (o := ⟨some 55, _, _, _, _, _⟩) hs rfl rfl ((Reads.blk 1 rfl)) ((by rw [R2L.out]; kernel_rfl)) (by kernel_rfl) ?_))) | ((with_reducible refine Se.isL (o := ⟨none, _, _, _, _, _⟩) ?_); (refine Se.toL rfl (Se.sow 0 hs rfl rfl rfl rfl (R2O.out) ((by rw [R2L.out]; kernel_rfl)) ((by rw [R2L.out, ZL.out])) ?_); clear hs; intro w hs; try simp only [List.cons_append, List.nil_append, List.set_cons_zero] at hs)))
  refine Se.ret hs [.agg R2.toArray, .int .i64 0] rfl ⟨Se.resRow rfl (Reads.blk 0 rfl) (by kernel_rfl) (by rw [R2L.out]; kernel_rfl), rfl, trivial⟩ (by simp) rfl ?_
  rw [HF2.out]
  exact ⟨s, HO2.out, by rw [HR2.out]; rfl, hs.drop.drop⟩
end Au
end Go.Proofs.YtakdoijemopejaaGreat
/- Layer 38: the reference's steps whatever they are, beside other pieces; what a step keeps. No condition but Go's own limits. -/
namespace Go.Proofs.YtakdoijemopejaaGreat
open Go Go.RowKit
namespace Au
open Se (St At Reads Cell)
open Li (v8 v8_one Rd Blk Fr)
open Bv (n8 n16 n32 n64)
variable {w0 w : World} {X : List Nat} {L M : List At}
attribute [local irreducible] Calls
def RVer (w0 : World) (X : List Nat) (L : List At) (A : Option Addr) (c : Nat) (v : Vs) (m : Bs) (E : Nat) (e : Ending) (w' : World) : Prop :=
 ∃ r B cb RV, Hid (RV = rvc v A c) ∧ e = .returned (.tuple #[.agg RV.toArray, .slice B m.length cb, .int .i64 E]) ∧ (m.length ≤ cb ∧ St w0 X (.own 1 r B m.length cb (m.map v8) :: L) w')
def RPro (w0 : World) (X : List Nat) (L : List At) (A : Option Addr) (c : Nat) (v : Vs) (m : Bs) (E : Nat) (e : Ending) (w' : World) : Prop :=
 ∃ r B cb s RV, Hid (SOk v s) ∧ Hid (RV = rps v s A c) ∧ e = .returned (.tuple #[.agg RV.toArray, .slice B m.length cb, .int .i64 E]) ∧ (m.length ≤ cb ∧ St w0 X (.own 1 r B m.length cb (m.map v8) :: L) w')
theorem own_cap {w : World} {r : Option Nat} {B : Option Addr} {n c : Nat} {xs : List Value} (hs : St w0 X (.own 1 r B n c xs :: L) w) : n ≤ c := (show Se.Ow w 1 r B n c xs from hs.hold _ List.mem_cons_self).2.1
theorem rchalM (hs : St w0 X L w) {v v' : Vs} {m : Bs} {E : Nat} (A : Option Addr) (c : Nat) (hv : v.n.length = 32) (nonce : Bs) (hn : nonce.length = 32) (seq : BitVec 32) (q : BitVec 16) (he : chalS v nonce seq q = (v', m, E)) :
  Calls Tryz.prog 11 #[.agg (rvc v A c).toArray, .agg (nonce.map v8).toArray, .int .u32 (n32 seq), .int .u16 (n16 q)] w fun e w' => RVer w0 X L A c v' m E e w' := by
 refine (rchal_st hs v A c hv nonce hn seq q).mono ?_
 rw [he]
 rintro e w' ⟨r, B, cb, rfl, h⟩
 exact ⟨r, B, cb, _, Lib.hid rfl, rfl, own_cap h, h⟩
theorem rchkM (hs : St w0 X L w) {v v' : Vs} {m : Bs} {E : Nat} (A B : Option Addr) (c n cb : Nat) (hv : v.ok) (hr : Reads L A (v.p.sec.map v8)) (b : Bs) (hn : n = b.length) (hB : Reads L B (b.map v8)) (hc : n ≤ cb) (hle : n ≤ 1000) (he : checkS v b = (v', m, E)) :
  Calls Tryz.prog 16 #[.agg (rvc v A c).toArray, .slice B n cb] w fun e w' => RVer w0 X L A c v' m E e w' := by
 have h : Calls Tryz.prog 16 #[.agg (rvc v A c).toArray, .slice B n cb] w fun e w' => ∃ r B cb, e = .returned (.tuple #[.agg (rvc (checkS v b).1 A c).toArray, .slice B (checkS v b).2.1.length cb, .int .i64 ((checkS v b).2.2 : Nat)]) ∧ St w0 X (.own 1 r B (checkS v b).2.1.length cb ((checkS v b).2.1.map v8) :: L) w' := by
  by_cases h : parE b 2#8 1#8 2 ≠ 0 ∨ v.o = false
  ·exact rchk0_st hs v A B c n cb hv.n b hn hB hc hle h
  ·exact rchk1_st hs v A B c n cb hv.n hr (by have := hv.k; omega) hv.a hv.b b hn hB hc (Decidable.not_not.1 fun h2 => h (.inl h2)) (by cases ho : v.o; exact absurd (.inr ho) h; rfl)
 refine h.mono ?_
 rw [he]
 rintro e w' ⟨r, B, cb, rfl, h⟩
 exact ⟨r, B, cb, _, Lib.hid rfl, rfl, own_cap h, h⟩
theorem ransM (hs : St w0 X L w) {v v' : Vs} {m : Bs} {E : Nat} (s : ByteArray) (hS : SOk v s) (A B : Option Addr) (c n cb : Nat) (hv : v.ok) (hr : Reads L A (v.p.sec.map v8)) (b : Bs) (hn : n = b.length) (hB : Reads L B (b.map v8)) (hle : n ≤ 1000) (both : Bool) (nonce : Bs) (hnl : nonce.length = 32) (he : ansS v b both nonce = (v', m, E)) :
  Calls Tryz.prog 14 #[.agg (rps v s A c).toArray, .slice B n cb, .bool both, .agg (nonce.map v8).toArray] w fun e w' => RPro w0 X L A c v' m E e w' := by
 have h : Calls Tryz.prog 14 #[.agg (rps v s A c).toArray, .slice B n cb, .bool both, .agg (nonce.map v8).toArray] w fun e w' => RAns w0 X L A c (ansS v b both nonce) e w' := by
  by_cases h : parE b 1#8 0#8 1 ≠ 0
  ·exact rans0_st hs v s hS A B c n cb hv.n b hn hB hle both nonce h
  ·exact rans1_st hs v s A B c n cb hv.n hr (by have := hv.k; omega) hv.a hv.b b hn hB both nonce hnl (Decidable.not_not.1 h)
 refine h.mono ?_
 rw [he]
 rintro e w' ⟨r, B, cb, s', h1, rfl, h⟩
 exact ⟨r, B, cb, s', _, Lib.hid h1, Lib.hid rfl, rfl, own_cap h, h⟩
theorem rfinM (hs : St w0 X L w) {v v' : Vs} {E : Nat} (s : ByteArray) (hS : SOk v s) (A B : Option Addr) (c n cb : Nat) (hv : v.ok) (hr : Reads L A (v.p.sec.map v8)) (b : Bs) (hn : n = b.length) (hB : Reads L B (b.map v8)) (hc : n ≤ cb) (hle : n ≤ 1000) (he : finS v b = (v', E)) :
  Calls Tryz.prog 20 #[.agg (rps v s A c).toArray, .slice B n cb] w fun e w' => ∃ s' RV, Hid (SOk v' s') ∧ Hid (RV = rps v' s' A c) ∧ e = .returned (.tuple #[.agg RV.toArray, .int .i64 E]) ∧ St w0 X L w' := by
 have h : Calls Tryz.prog 20 #[.agg (rps v s A c).toArray, .slice B n cb] w fun e w' => RFin w0 X L A c (finS v b) e w' := by
  by_cases h : parE b 3#8 1#8 1 ≠ 0 ∨ v.o = false
  ·exact rfin0_st hs v s hS A B c n cb hv.n b hn hB hc hle h
  ·exact rfin1_st hs v s hS A B c n cb hv.n hr (by have := hv.k; omega) hv.a hv.b b hn hB hc (Decidable.not_not.1 fun h2 => h (.inl h2)) (by cases ho : v.o; exact absurd (.inr ho) h; rfl)
 refine h.mono ?_
 rw [he]
 rintro e w' ⟨s', h1, rfl, h⟩
 exact ⟨s', _, Lib.hid h1, Lib.hid rfl, rfl, h⟩
/-- What a step keeps of a verifier or a prover. -/
def Kp (v v' : Vs) : Prop := v'.ok ∧ v'.p = v.p
theorem msg_len1 (h : Hd) {n : Bs} (hn : n.length = 32) : (msg h [n]).length = 40 := by unfold msg; simp [headL_len, hn]
theorem chal_kp {v v' : Vs} {N m : Bs} {s : BitVec 32} {q : BitVec 16} {E : Nat} (h : v.ok) (hN : N.length = 32) (he : chalS v N s q = (v', m, E)) : Kp v v' ∧ m.length ≤ 40 := by
 unfold chalS at he
 split at he
 ·cases he; exact ⟨⟨h, rfl⟩, by simp⟩
 ·cases he; exact ⟨⟨⟨hN, h.k1, h.k, h.a, h.b⟩, rfl⟩, by rw [msg_len1 _ hN]; omega⟩
theorem check_kp {v v' : Vs} {b m : Bs} {E : Nat} (h : v.ok) (he : checkS v b = (v', m, E)) : Kp v v' ∧ m.length ≤ 40 := by
 unfold checkS at he
 repeat' split at he
 all_goals (cases he; refine ⟨⟨⟨h.n, h.k1, h.k, h.a, h.b⟩, rfl⟩, ?_⟩)
 all_goals first | exact Nat.zero_le _ | (rw [msg_len1 _ (by first | exact resp_len _ _ _ _ | rfl)]; omega)
theorem ans_kp {v v' : Vs} {b m N : Bs} {both : Bool} {E : Nat} (h : v.ok) (hN : N.length = 32) (he : ansS v b both N = (v', m, E)) : Kp v v' ∧ m.length ≤ 72 := by
 unfold ansS at he
 split at he
 ·cases he; exact ⟨⟨h, rfl⟩, by simp⟩
 ·have hz : (if both then N else z32).length = 32 := by cases both; rfl; exact hN
  cases he
  refine ⟨⟨⟨hz, h.k1, h.k, h.a, h.b⟩, rfl⟩, ?_⟩
  unfold msg
  simp [headL_len, resp_len, hz]
theorem fin_kp {v v' : Vs} {b : Bs} {E : Nat} (h : v.ok) (he : finS v b = (v', E)) : Kp v v' := by
 unfold finS at he
 repeat' split at he
 all_goals (cases he; exact ⟨⟨h.n, h.k1, h.k, h.a, h.b⟩, rfl⟩)
theorem rvc_new (p : Pn) (A : Option Addr) (c : Nat) (w : World) : (Instr.build 36 #[(0, .agg (pcl p A c).toArray)]).run Tryz.prog w = .ok (.agg (rvc { p := p } A c).toArray) w := by kernel_rfl
theorem rps_new (p : Pn) (A : Option Addr) (c : Nat) (w : World) : (Instr.build 46 #[(0, .agg (pcl p A c).toArray)]).run Tryz.prog w = .ok (.agg (rps { p := p } ⟨#[]⟩ A c).toArray) w := by kernel_rfl
theorem so_new (p : Pn) (s : ByteArray) : SOk { p := p } s := by intro h; cases h
theorem actI : (Tryz.prog.info? 38).bind (fun i => i.zero.map (·.cells.toList)) = some (acl 0 z32 0#32 0#16 none 0 0 false) := by kernel_rfl
theorem acl_one (k : Int) (N : Bs) (s : BitVec 32) (q : BitVec 16) (B : Option Addr) (n c : Nat) (both : Bool) : ∀ x ∈ acl k N s q B n c both, x.oneCell' = true := by
 intro x hx
 simp only [acl, List.mem_cons, List.mem_append, List.not_mem_nil, or_false] at hx
 rcases hx with rfl | h | rfl | rfl | rfl | rfl
 ·rfl
 ·exact v8_one _ x h
 all_goals rfl
end Au
end Go.Proofs.YtakdoijemopejaaGreat

/- Layer 36: Join of the program; slices of PDUs. No condition but Go's own limits. -/
import Derived.Test.YtdngfcmakjlamaaStrTake
import Derived.Test.YtdngfcmakjlamaaPduLib
set_option linter.unusedSimpArgs false
set_option linter.unusedVariables false
namespace Go.Proofs.Ytdngfcmakjlamaa
open Go Go.RowKit
namespace Sr
open Pd (Fm PDU meas dec framed pc iv fl fv encE)
open Se (St At Reads Cell)
open Li (v8 v8_one Rd Blk Fr)
open Bv (n8 n16 n32 n64)
variable {w0 w : World} {X : List Nat} {L : List At} {s s' : Rc} {g c : Nat} {B : Option Addr} {r : Option Nat}
attribute [local irreducible] Calls
/-- Rows of PDUs. -/
def PP (L : List At) (R : List (List Value)) (ps : List PDU) : Prop := R.length = ps.length ∧ ∀ (i : Nat) (PC : List Value) (p : PDU), R[i]? = some PC → ps[i]? = some p → ∃ EA ec DA dc, PC = pc p.h EA p.en.length ec DA p.da.length dc ∧ Reads L EA (p.en.map v8) ∧ Reads L DA (p.da.map v8)
theorem PP.mono {L' : List At} {R : List (List Value)} {ps : List PDU} (h : PP L R ps) (hm : ∀ a ∈ L, a ∈ L') : PP L' R ps := ⟨h.1, fun i PC p h1 h2 => by
 obtain ⟨EA, ec, DA, dc, h3, h4, h5⟩ := h.2 i PC p h1 h2
 exact ⟨EA, ec, DA, dc, h3, h4.mono hm, h5.mono hm⟩⟩
theorem PP.nil : PP L [] [] := ⟨rfl, fun i PC p h => by simp at h⟩
theorem PP.snoc {R : List (List Value)} {ps : List PDU} (h : PP L R ps) {p : PDU} {EA DA : Option Addr} {ec dc : Nat} (h1 : Reads L EA (p.en.map v8)) (h2 : Reads L DA (p.da.map v8)) : PP L (R ++ [pc p.h EA p.en.length ec DA p.da.length dc]) (ps ++ [p]) := by
 refine ⟨by simp [h.1], fun i PC q h3 h4 => ?_⟩
 by_cases hi : i < R.length
 ·rw [List.getElem?_append_left hi] at h3
  rw [List.getElem?_append_left (by rw [← h.1]; exact hi)] at h4
  exact h.2 i PC q h3 h4
 ·rw [List.getElem?_append_right (by omega)] at h3
  rw [List.getElem?_append_right (by rw [← h.1]; omega)] at h4
  have e : i - R.length = 0 := by
   cases hj : i - R.length with
   | zero => rfl
   | succ k => rw [hj] at h3; simp at h3
  rw [e] at h3
  rw [← h.1, e] at h4
  simp only [List.getElem?_cons_zero, Option.some.injEq] at h3 h4
  subst h3 h4
  exact ⟨EA, ec, DA, dc, rfl, h1, h2⟩
theorem PP.len {R : List (List Value)} {ps : List PDU} (h : PP L R ps) : ∀ x ∈ R, x.length = 14 := by
 intro x hx
 obtain ⟨i, hi, rfl⟩ := List.getElem_of_mem hx
 obtain ⟨EA, ec, DA, dc, h3, _, _⟩ := h.2 i R[i] (ps[i]'(by rw [← h.1]; exact hi)) (List.getElem?_eq_getElem hi) (List.getElem?_eq_getElem _)
 rw [h3]; rfl
theorem flat_row {z : Nat} : ∀ (R : List (List Value)) (i : Nat) (PC : List Value), (∀ x ∈ R, x.length = z) → R[i]? = some PC → (R.flatten.drop (i * z)).take z = PC
 | [], i, PC, _, h => by simp at h
 | x :: R, 0, PC, hl, h => by
  simp only [List.getElem?_cons_zero, Option.some.injEq] at h
  subst h
  have := hl x List.mem_cons_self
  simp only [List.flatten_cons, Nat.zero_mul, List.drop_zero]
  rw [List.take_left' this]
 | x :: R, i + 1, PC, hl, h => by
  simp only [List.getElem?_cons_succ] at h
  have := hl x List.mem_cons_self
  have e : (i + 1) * z = i * z + z := Nat.succ_mul i z
  rw [List.flatten_cons, List.drop_append, List.drop_eq_nil_of_le (by omega), List.nil_append, show (i + 1) * z - x.length = i * z by omega]
  exact flat_row R i PC (fun y hy => hl y (List.mem_cons_of_mem _ hy)) h
theorem flat_len {z : Nat} : ∀ (R : List (List Value)), (∀ x ∈ R, x.length = z) → R.flatten.length = R.length * z
 | [], _ => by simp
 | x :: R, hl => by
  have h1 := hl x List.mem_cons_self
  have h2 := flat_len R (fun y hy => hl y (List.mem_cons_of_mem _ hy))
  rw [List.flatten_cons, List.length_append, List.length_cons, h1, h2, Nat.succ_mul, Nat.add_comm]
/-- The row of a PDU in a slice. -/
theorem PP.row {R : List (List Value)} {ps : List PDU} (h : PP L R ps) {i : Nat} (hi : i < ps.length) : ∃ PC EA ec DA dc, R[i]? = some PC ∧ PC = pc (ps[i]).h EA (ps[i]).en.length ec DA (ps[i]).da.length dc ∧ Reads L EA ((ps[i]).en.map v8) ∧ Reads L DA ((ps[i]).da.map v8) ∧ ∀ g o, Reads L (some ⟨g, o, none⟩) R.flatten → Reads L (some ⟨g, o + i * 14, none⟩) PC := by
 have hR : i < R.length := by rw [h.1]; exact hi
 obtain ⟨EA, ec, DA, dc, h3, h4, h5⟩ := h.2 i R[i] ps[i] (List.getElem?_eq_getElem hR) (List.getElem?_eq_getElem hi)
 refine ⟨R[i], EA, ec, DA, dc, List.getElem?_eq_getElem hR, h3, h4, h5, fun g o hr => ?_⟩
 have h6 := (hr.at (i * 14)).take 14
 rwa [flat_row R i _ h.len (List.getElem?_eq_getElem hR)] at h6
theorem PP.ne {R : List (List Value)} {ps : List PDU} (h : PP L R ps) {i : Nat} (hi : i < ps.length) : R.flatten ≠ [] := by
 intro he
 have h1 := flat_len R h.len
 rw [he, h.1] at h1
 simp only [List.length_nil] at h1
 omega
def joinE (f : Fm) : List (BitVec 8) → List PDU → List (BitVec 8) × Nat
 | acc, [] => (acc, 0)
 | acc, p :: ps => if (encE p f).2 = 0 then joinE f (acc ++ (encE p f).1) ps else ([], (encE p f).2)
theorem most_le (k : Nat) : Pd.most k ≤ 1048576 := by unfold Pd.most; split <;> omega
theorem encE_le (p : PDU) (f : Fm) : (encE p f).1.length ≤ 2097152 := by
 unfold encE
 by_cases h1 : framed f = true
 ·by_cases h2 : Pd.valid p = true
  ·rw [if_pos h1, if_pos h2]
   show (Pd.enc p f).length ≤ _
   rw [Pd.enc_len p f h1 h2]
   have a1 := Pd.hdr_le p.h.k.toNat
   have a2 := Pd.hsum_le p.h.k.toNat f
   have a3 := Pd.dsum_le p.h.k.toNat f (decide (0 < p.da.length))
   have a4 := Pd.start_le p.h.k.toNat h1
   have a5 := most_le p.h.k.toNat
   have a6 : p.da.length ≤ Pd.most p.h.k.toNat := by
    unfold Pd.valid at h2
    simp only [Bool.and_eq_true, decide_eq_true_eq] at h2
    exact h2.1.1.2
   unfold Pd.size Pd.hs Pd.ds
   split <;> omega
  ·rw [if_pos h1, if_neg h2]; exact Nat.zero_le _
 ·rw [if_neg h1]; exact Nat.zero_le _
set_option maxRecDepth 100000 in
set_option maxHeartbeats 4000000 in
theorem join1_st {b : Nat} (hs : St w0 X L w) (f : Fm) (hb : Reads L (some ⟨b, 0, none⟩) (fl f)) (p : PDU) {EA DA : Option Addr} {ec dc : Nat} (hE : Reads L EA (p.en.map v8)) (hD : Reads L DA (p.da.map v8)) (le : p.en.length ≤ 70368744177664) (ld : p.da.length ≤ 70368744177664) {bs : List (BitVec 8)} {e : Nat} (hr : encE p f = (bs, e)) :
  Calls Try.prog 35 #[.agg (pc p.h EA p.en.length ec DA p.da.length dc).toArray, .pointer (some ⟨b, 0, none⟩)] w fun e' w' => ∃ r B c, e' = .returned (.tuple #[.slice B bs.length c, iv e]) ∧ bs.length ≤ c ∧ St w0 X (.own 1 r B bs.length c (bs.map v8) :: L) w' := by
 obtain ⟨PC, hPC⟩ : ∃ PC, PC = pc p.h EA p.en.length ec DA p.da.length dc := ⟨_, rfl⟩
 obtain ⟨F, hF⟩ : ∃ F, F = fl f := ⟨_, rfl⟩
 obtain ⟨m, hm⟩ : ∃ m, m = bs.length := ⟨_, rfl⟩
 have FL := Lib.hid (show F.length = 3 by rw [hF]; rfl)
 have PCL := Lib.hid (pcl PC hPC).1
 have CE : Hid (∀ (M : List At) (w : World), St w0 X (M ++ L) w → Calls Try.prog 36 #[.agg PC.toArray, .agg F.toArray] w fun e' w' => ∃ r B c, e' = .returned (.tuple #[.slice B m c, iv e]) ∧ m ≤ c ∧ St w0 X (.own 1 r B m c (bs.map v8) :: (M ++ L)) w') := Lib.hid (fun M w hs => by
  rw [hPC, hF, ← Pd.fv_eq]
  exact Pd.encodeN_st hs p f (hE.app M) (hD.app M) rfl rfl le ld hr hm)
 have HB : Hid (Reads L (some ⟨b, 0, none⟩) F) := Lib.hid (by rw [hF]; exact hb)
 rw [← hPC, ← hm]
 clear hPC hF hm hb hE hD hr le ld
 go_enter Try.func35, Try.ntmps35
 go_wp2_with (first | ((with_reducible refine Se.isL (o := ⟨some 5, _, _, _, _, _⟩) ?_); (refine Se.toL rfl (Se.ldw (o := ⟨some 5, _, _, _, _, _⟩) hs rfl rfl ((Reads.blk 0 rfl)) ((by rw [PCL.out]; kernel_rfl)) (by kernel_rfl) ?_))) | ((with_reducible refine Se.isL (o := ⟨some 6, _, _, _, _, _⟩) ?_); (refine Se.toL rfl (Se.ldw (o := ⟨some 6, _, _, _, _, _⟩) hs rfl rfl ((HB.out.app [_])) ((by rw [FL.out]; kernel_rfl)) (by kernel_rfl) ?_))) | ((first | with_reducible refine Se.ab hs ?_ | with_reducible refine Se.abc hs ?_); clear hs; (first | (generalize w.heap.size = g2; intro w hs))) | (go_at_call 36; refine Calls.mono (CE.out [_] _ hs) ?_; clear hs; rintro e w ⟨r, B, c, rfl, hle, hs⟩))
 go_ret2
 exact ⟨r, B, c, rfl, hle, hs.sub (List.Sublist.cons_cons _ (.cons _ (List.Sublist.refl _)))⟩
set_option maxRecDepth 100000 in
set_option maxHeartbeats 4000000 in
theorem each_st {b : Nat} (hs : St w0 X L w) (f : Fm) (hb : Reads L (some ⟨b, 0, none⟩) (fl f)) {A : Option Addr} {R : List (List Value)} {ps : List PDU} {k ca : Nat} (hk : k = ps.length) (hA : Reads L A R.flatten) (hP : PP L R ps) (hl : ∀ p ∈ ps, p.en.length ≤ 70368744177664 ∧ p.da.length ≤ 70368744177664) (hkl : k ≤ 4194304) {bs : List (BitVec 8)} {e : Nat} (hr : joinE f [] ps = (bs, e)) {m : Nat} (hm : m = bs.length) :
  Calls Try.prog 34 #[.slice A k ca, .func (.func 35) #[] #[.pointer (some ⟨b, 0, none⟩)]] w fun e' w' => ∃ r B c, e' = .returned (.tuple #[.slice B m c, iv e]) ∧ m ≤ c ∧ St w0 X (.own 1 r B m c (bs.map v8) :: L) w' := by
 have HR := Lib.hid hr
 have HM := Lib.hid hm
 have HK := Lib.hid hk
 have HZ := Lib.hid zP0
 have C1 : Hid (∀ (i : Nat) (hi : i < ps.length) (M : List At) (w : World), St w0 X (M ++ L) w → ∃ PC : List Value, Hid (PC.length = 14 ∧ ∀ v ∈ PC, v.oneCell' = true) ∧ (∃ g o, A = some ⟨g, o, none⟩ ∧ Reads L (some ⟨g, o + i * 14, none⟩) PC) ∧ ∀ (M' : List At) (w : World), St w0 X (M' ++ L) w → Calls Try.prog 35 #[.agg PC.toArray, .pointer (some ⟨b, 0, none⟩)] w fun e' w' => ∃ r B c, e' = .returned (.tuple #[.slice B (encE ps[i] f).1.length c, iv (encE ps[i] f).2]) ∧ (encE ps[i] f).1.length ≤ c ∧ St w0 X (.own 1 r B (encE ps[i] f).1.length c ((encE ps[i] f).1.map v8) :: (M' ++ L)) w') := Lib.hid (fun i hi M w hs => by
  obtain ⟨PC, EA, ec, DA, dc, h1, h2, h3, h4, h5⟩ := hP.row hi
  obtain ⟨g, o, hg, _, _⟩ := (hA w (fun a ha => hs.hold a (List.mem_append.2 (.inr ha)))).cells (hP.ne hi)
  refine ⟨PC, Lib.hid (by rw [h2]; exact ⟨rfl, Pd.pc_one _ _ _ _ _ _ _⟩), ⟨g, o, hg, h5 g o (hg ▸ hA)⟩, fun M' w hs => ?_⟩
  rw [h2]
  have h6 := hl _ (List.getElem_mem hi)
  exact join1_st hs f (hb.app M') ps[i] (h3.app M') (h4.app M') h6.1 h6.2 rfl)
 clear hr hm hk hb hA hP hl
 go_enter Try.func34, Try.ntmps34
 go_wp2_with fail
 go_loopg [6, 13] k (fun gh s6 s13 wr => ∃ (i n : Nat) (acc : List (BitVec 8)) (r : Option Nat) (B : Option Addr) (c : Nat), gh = k - i ∧ i ≤ k ∧ s13 = .int .i64 (i : Int) ∧ s6 = .slice B n c ∧ Hid (n = acc.length) ∧ Hid (joinE f acc (ps.drop i) = (bs, e)) ∧ Hid (n ≤ i * 2097152) ∧ St w0 X (.own 1 r B n c (acc.map v8) :: L) wr)
 case atStart => exact ⟨0, 0, [], none, none, 0, rfl, Nat.zero_le _, rfl, rfl, Lib.hid rfl, Lib.hid HR.out, Lib.hid (Nat.zero_le _), hs.nil_own 1 none⟩
 case round =>
  clear hs
  rename World => w
  obtain ⟨i, n, acc, r, B, c, rfl, hi, rfl, rfl, HN, HJ, HB, hs⟩ := hrel
  by_cases hlt : i < k
  ·have hlt' : (i : Int) < (k : Int) := by omega
   have hil : i < ps.length := by have := HK.out; omega
   obtain ⟨PC, HPC, ⟨g, o, rfl, RP⟩, CJ⟩ := C1.out i hil [_] w hs
   obtain ⟨⟨es, ee⟩, hE⟩ : ∃ x, encE ps[i] f = x := ⟨_, rfl⟩
   have hq := encE_le ps[i] f
   rw [hE] at CJ hq
   dsimp only at CJ hq
   have HJ2 := HJ.out
   rw [List.drop_eq_getElem_cons hil, joinE, hE] at HJ2
   dsimp only at HJ2
   obtain ⟨q, hq0⟩ : ∃ q, q = es.length := ⟨_, rfl⟩
   rw [← hq0] at CJ hq
   have HQ := Lib.hid hq0
   have hnb : n + q ≤ 70368744177664 := by have := HB.out; omega
   have RP := Lib.hid RP
   have CJ := Lib.hid CJ
   clear HJ hE hq0 hil
   by_cases h0 : ee = 0
   ·subst h0
    have HJ2 := Lib.hid ((if_pos rfl).symm.trans HJ2)
    go_wp2_with (first | ((with_reducible refine Se.isL (o := ⟨some 16, _, _, _, _, _⟩) ?_); (refine Se.toL rfl (Se.ldw (o := ⟨some 16, _, _, _, _, _⟩) hs rfl rfl ((RP.out.cons _)) ((by rw [HPC.out.1]; kernel_rfl)) (by kernel_rfl) ?_))) | ((with_reducible refine Se.isL (o := ⟨some 8, _, _, _, _, _⟩) ?_); (refine Se.toL rfl (Se.al (o := ⟨some 8, _, _, _, _, _⟩) hs rfl (HZ.out) ?_); clear hs; rintro w g8 - hs)) | ((with_reducible refine Se.isL (o := ⟨none, _, _, _, _, _⟩) ?_); (refine Se.toL rfl (Se.sow 0 hs rfl rfl rfl rfl (HPC.out.2) ((by rw [HPC.out.1]; kernel_rfl)) ((by rw [HPC.out.1]; rfl)) ?_); clear hs; intro w hs; try simp only [List.cons_append, List.nil_append, List.set_cons_zero] at hs)) | ((with_reducible refine Se.isL (o := ⟨some 19, _, _, _, _, _⟩) ?_); (refine Se.toL rfl (Se.ldw (o := ⟨some 19, _, _, _, _, _⟩) hs rfl rfl ((Reads.blk 0 rfl)) ((by rw [HPC.out.1]; kernel_rfl)) (by kernel_rfl) ?_))) | ((with_reducible refine Se.isL (o := ⟨some 28, _, _, _, _, _⟩) ?_); (refine Se.toL rfl (Se.ap (o := ⟨some 28, _, _, _, _, _⟩) 2 hs rfl rfl rfl rfl ((Reads.own 0 rfl)) Try.underlying24 Pd.u8i3 rfl (by decide) ((v8_one _)) ((by rw [List.length_map, HQ.out, Nat.mul_one])) ((by omega)) ((by omega)) ?_); clear hs; rintro w r3 B3 c3 hs; try simp only [List.cons_append, List.nil_append, List.set_cons_zero, List.set_cons_succ] at hs)) | (go_at_call 35; refine Calls.mono (CJ.out [_, _] _ hs) ?_; clear hs; rintro e w ⟨r2, B2, c2, rfl, hle, hs⟩))
    go_roundg (k - (i + 1))
    case measure => omega
    case rel =>
     refine ⟨i + 1, n + q, acc ++ es, r3, B3, c3, rfl, by omega, by go_num, rfl, Lib.hid (by rw [List.length_append, HN.out, HQ.out]), HJ2, Lib.hid (by have := HB.out; omega), ?_⟩
     rw [List.map_append]
     exact hs.drop.drop.sub (List.Sublist.refl _)
   ·have e1 := (int_ne h0).1
    have HJ2 := Lib.hid ((if_neg h0).symm.trans HJ2)
    clear h0
    go_wp2_with (first | ((with_reducible refine Se.isL (o := ⟨some 16, _, _, _, _, _⟩) ?_); (refine Se.toL rfl (Se.ldw (o := ⟨some 16, _, _, _, _, _⟩) hs rfl rfl ((RP.out.cons _)) ((by rw [HPC.out.1]; kernel_rfl)) (by kernel_rfl) ?_))) | ((with_reducible refine Se.isL (o := ⟨some 8, _, _, _, _, _⟩) ?_); (refine Se.toL rfl (Se.al (o := ⟨some 8, _, _, _, _, _⟩) hs rfl (HZ.out) ?_); clear hs; rintro w g8 - hs)) | ((with_reducible refine Se.isL (o := ⟨none, _, _, _, _, _⟩) ?_); (refine Se.toL rfl (Se.sow 0 hs rfl rfl rfl rfl (HPC.out.2) ((by rw [HPC.out.1]; kernel_rfl)) ((by rw [HPC.out.1]; rfl)) ?_); clear hs; intro w hs; try simp only [List.cons_append, List.nil_append, List.set_cons_zero] at hs)) | ((with_reducible refine Se.isL (o := ⟨some 19, _, _, _, _, _⟩) ?_); (refine Se.toL rfl (Se.ldw (o := ⟨some 19, _, _, _, _, _⟩) hs rfl rfl ((Reads.blk 0 rfl)) ((by rw [HPC.out.1]; kernel_rfl)) (by kernel_rfl) ?_))) | (go_at_call 35; refine Calls.mono (CJ.out [_, _] _ hs) ?_; clear hs; rintro e w ⟨r2, B2, c2, rfl, hle, hs⟩))
    go_ret2
    have h5 := HJ2.out
    simp only [Prod.mk.injEq] at h5
    have h6 := HM.out
    rw [← h5.1] at h6 ⊢
    rw [← h5.2]
    simp only [List.length_nil] at h6
    subst h6
    exact ⟨none, none, 0, rfl, Nat.le_refl _, hs.drop.drop.drop.nil_own 1 none⟩
  ·obtain rfl : i = k := by omega
   have h5 := HJ.out
   rw [List.drop_eq_nil_of_le (by have := HK.out; omega), joinE] at h5
   simp only [Prod.mk.injEq] at h5
   obtain ⟨h6, h7⟩ := h5
   subst h6
   have hc := Pd.own_le hs List.mem_cons_self
   obtain rfl : n = m := by rw [HM.out, HN.out]
   have H7 := Lib.hid h7
   clear h7
   go_wp2_with fail
   go_ret2
   exact ⟨r, B, c, by rw [← H7.out]; rfl, hc, hs⟩
set_option maxRecDepth 100000 in
set_option maxHeartbeats 4000000 in
theorem join_st (hs : St w0 X L w) (f : Fm) {A : Option Addr} {R : List (List Value)} {ps : List PDU} {k ca : Nat} (hk : k = ps.length) (hA : Reads L A R.flatten) (hP : PP L R ps) (hl : ∀ p ∈ ps, p.en.length ≤ 70368744177664 ∧ p.da.length ≤ 70368744177664) (hkl : k ≤ 4194304) {bs : List (BitVec 8)} {e : Nat} (hr : joinE f [] ps = (bs, e)) {m : Nat} (hm : m = bs.length) :
  Calls Try.prog 16 #[fv f, .slice A k ca] w fun e' w' => ∃ r B c, e' = .returned (.tuple #[.slice B m c, iv e]) ∧ m ≤ c ∧ St w0 X (.own 1 r B m c (bs.map v8) :: L) w' := by
 obtain ⟨F, hF⟩ : ∃ F, F = fl f := ⟨_, rfl⟩
 have FL := Lib.hid (show F.length = 3 by rw [hF]; rfl)
 have CE : Hid (∀ (b : Nat) (w : World), St w0 X (.blk b 23 F :: L) w → Calls Try.prog 34 #[.slice A k ca, .func (.func 35) #[] #[.pointer (some ⟨b, 0, none⟩)]] w fun e' w' => ∃ r B c, e' = .returned (.tuple #[.slice B m c, iv e]) ∧ m ≤ c ∧ St w0 X (.own 1 r B m c (bs.map v8) :: .blk b 23 F :: L) w') := Lib.hid (fun b w hs => each_st hs f (Reads.blk 0 (by rw [hF]; rfl)) hk (hA.cons _) (hP.mono (fun _ h => List.mem_cons_of_mem _ h)) hl hkl hr hm)
 rw [Pd.fv_eq, ← hF]
 clear hF hk hA hP hl hkl hr hm
 go_enter Try.func16, Try.ntmps16
 go_wp2_with (first | ((first | with_reducible refine Se.ab hs ?_ | with_reducible refine Se.abc hs ?_); clear hs; (first | (generalize w.heap.size = g2; intro w hs))) | (go_at_call 34; refine Calls.mono (CE.out _ _ hs) ?_; clear hs; rintro e w ⟨r, B, c, rfl, hle, hs⟩))
 go_ret2
 exact ⟨r, B, c, rfl, hle, hs.sub (List.Sublist.cons_cons _ (.cons _ (List.Sublist.refl _)))⟩
end Sr
end Go.Proofs.Ytdngfcmakjlamaa


/- Layer 36: the law StreamLimits, the walk. No condition but Go's own limits. -/
import Derived.Test.YtdngfcmakjlamaaStrDiv
import Derived.Test.YtdngfcmakjlamaaStrKnown
import Derived.Test.YtdngfcmakjlamaaPduBk
set_option linter.unusedSimpArgs false
set_option linter.unusedVariables false
namespace Go.Proofs.Ytdngfcmakjlamaa
open Go Go.RowKit
namespace Sr
open Pd (Fm PDU meas dec framed pc iv fl fv encE enc valid zs)
open Se (St At Reads Cell)
open Li (v8 v8_one Rd Blk Fr)
open Bv (n8 n16 n32 n64)
variable {w0 w : World} {X : List Nat} {L : List At} {s s' : Rc} {g c c2 : Nat} {B B2 : Option Addr} {r : Option Nat}
attribute [local irreducible] Calls
/-- The PDU of n zero bytes. -/
def pz (n : Nat) : PDU := { h := { k := 6#8 }, da := zs n }
theorem pz_valid {n : Nat} (h1 : 1 ≤ n) (h2 : n ≤ 1048576) : valid (pz n) = true := by
 unfold Pd.valid Pd.only Pd.own pz
 simp only [List.length_replicate, BitVec.reduceToNat, Bool.and_eq_true, decide_eq_true_eq]
 refine ⟨⟨⟨by decide, h2⟩, ?_⟩, by omega⟩
 decide
theorem pz_len {n : Nat} (h1 : 1 ≤ n) (h2 : n ≤ 1048576) : (enc (pz n) kf).length = 24 + n := by
 rw [Pd.enc_len (pz n) kf rfl (pz_valid h1 h2)]
 unfold Pd.size Pd.ds Pd.hs pz
 simp only [List.length_replicate]
 rw [if_pos (by omega)]
 have e1 : Pd.start (6#8).toNat kf = 24 := by decide
 rw [e1]
 have e2 : ∀ b, Pd.dsum (6#8).toNat kf b = 0 := by decide
 rw [e2, Nat.add_zero]
theorem meas_of_dec {b : List (BitVec 8)} {f : Fm} {p : PDU} (h : dec b f = (p, 0)) : meas b f = (b.length, 0) := by
 unfold dec at h
 dsimp only at h
 by_cases h1 : (meas b f).2 ≠ 0
 ·rw [if_pos h1] at h
  exact absurd (Prod.mk.inj h).2 h1
 rw [if_neg h1] at h
 by_cases h2 : b.length < (meas b f).1
 ·rw [if_pos h2] at h; cases h
 rw [if_neg h2] at h
 by_cases h3 : (meas b f).1 < b.length
 ·rw [if_pos h3] at h; cases h
 apply Prod.ext
 ·show (meas b f).1 = b.length
  omega
 ·show (meas b f).2 = 0
  omega
theorem pz_facts {n : Nat} (h1 : 1 ≤ n) (h2 : n ≤ 2000) {bs : List (BitVec 8)} (hb : bs = enc (pz n) kf) :
  joinE kf [] [pz n] = (bs, 0) ∧ bs.length = 24 + n ∧ nextE { f := kf, mo := 24 + n, b := bs } = ({ f := kf, mo := 24 + n, nb := 24 + n, np := 1 }, pz n, 0) ∧ nextE { f := kf, mo := 23 + n, b := bs.take 8 } = ({ f := kf, mo := 23 + n, e := 5 }, {}, 5) := by
 have hv := pz_valid h1 (by omega : n ≤ 1048576)
 have hl := pz_len h1 (by omega : n ≤ 1048576)
 have hd := Pd.dec_enc (f := kf) rfl hv
 have hm := meas_of_dec hd
 rw [hl] at hm
 subst hb
 have hm8 : meas ((enc (pz n) kf).take 8) kf = (24 + n, 0) := by
  have h := meas_pre (a := (enc (pz n) kf).take 8) (x := (enc (pz n) kf).drop 8) (f := kf) (by rw [List.length_take]; omega)
  rw [List.take_append_drop, hm] at h
  exact h.symm
 refine ⟨?_, hl, ?_, ?_⟩
 ·have h1 : encE (pz n) kf = (enc (pz n) kf, 0) := by unfold Pd.encE; rw [if_pos (by decide), if_pos hv]
  simp only [joinE, h1, List.nil_append]
  rfl
 ·have ht : takeE { f := kf, mo := 24 + n, b := enc (pz n) kf } = (pz n, 24 + n, 0) := by
   unfold takeE
   dsimp only
   rw [if_neg (by omega), hm]
   dsimp only
   rw [if_neg (by simp), if_neg (by omega), if_neg (by omega), List.take_of_length_le (by omega), hd]
  unfold nextE
  rw [if_neg (by simp), ht]
  dsimp only
  rw [if_neg (by decide), if_neg (by decide), List.drop_of_length_le (by omega)]
  simp
 ·have ht : takeE { f := kf, mo := 23 + n, b := (enc (pz n) kf).take 8 } = ({}, 0, 5) := by
   unfold takeE
   dsimp only
   rw [if_neg (by rw [List.length_take]; omega), hm8]
   dsimp only
   rw [if_neg (by simp), if_pos (by omega)]
  unfold nextE
  rw [if_neg (by simp), ht]
  rfl
theorem zsrep (n : Nat) : (List.replicate n (Value.int .u8 0).cells.toList).flatten = (zs n).map v8 := by
 unfold Pd.zs
 rw [List.map_replicate]
 induction n with
 | zero => rfl
 | succ n ih => rw [List.replicate_succ, List.flatten_cons, ih, List.replicate_succ]; rfl
theorem bpz (g n : Nat) (w : World) : (Instr.build 41 #[(0, .int .u8 6), (13, .slice (some ⟨g, 0, none⟩) n n)]).run Try.prog w = .ok (.agg (pc (pz n).h none 0 0 (some ⟨g, 0, none⟩) n n).toArray) w := by kernel_rfl
set_option maxRecDepth 100000 in
set_option maxRecDepth 100000 in
set_option maxHeartbeats 4000000 in
theorem limits_st (hs : St w0 X L w) (i1 i2 : Int) :
  Calls Try.prog 5 #[.int .i64 i1, .int .i64 i2] w fun e' w' => e' = .returned (.bool true) ∧ St w0 X L w' := by
 have CK : Hid (∀ (M : List At) (w : World), St w0 X (M ++ L) w → Calls Try.prog 9 #[] w fun e' w' => e' = .returned (.bool true) ∧ St w0 X (M ++ L) w') := Lib.hid (fun M w hs => known_st hs)
 by_cases h1 : i1 < 105
 ·have d1 : decide (i1 < 105) = true := by simpa using h1
  clear h1
  go_enter Try.func5, Try.ntmps5
  go_wp2_with (first | (go_at_call 9; refine Calls.mono (CK.out [] _ hs) ?_; clear hs; rintro e w ⟨rfl, hs⟩))
  go_ret
  exact ⟨rfl, hs⟩
 have d1 : decide (i1 < 105) = false := by simpa using h1
 by_cases h2 : 2000 < i1
 ·have d2 : decide (2000 < i1) = true := by simpa using h2
  clear h1 h2
  go_enter Try.func5, Try.ntmps5
  go_wp2_with (first | (go_at_call 9; refine Calls.mono (CK.out [] _ hs) ?_; clear hs; rintro e w ⟨rfl, hs⟩))
  go_ret
  exact ⟨rfl, hs⟩
 have d2 : decide (2000 < i1) = false := by simpa using h2
 by_cases h3 : i2 < 1
 ·have d3 : decide (i2 < 1) = true := by simpa using h3
  clear h1 h2 h3
  go_enter Try.func5, Try.ntmps5
  go_wp2_with (first | (go_at_call 9; refine Calls.mono (CK.out [] _ hs) ?_; clear hs; rintro e w ⟨rfl, hs⟩))
  go_ret
  exact ⟨rfl, hs⟩
 have d3 : decide (i2 < 1) = false := by simpa using h3
 by_cases h4 : 50 < i2
 ·have d4 : decide (50 < i2) = true := by simpa using h4
  clear h1 h2 h3 h4
  go_enter Try.func5, Try.ntmps5
  go_wp2_with (first | (go_at_call 9; refine Calls.mono (CK.out [] _ hs) ?_; clear hs; rintro e w ⟨rfl, hs⟩))
  go_ret
  exact ⟨rfl, hs⟩
 have d4 : decide (50 < i2) = false := by simpa using h4
 obtain ⟨n, rfl⟩ : ∃ n : Nat, i1 = (n : Int) := ⟨i1.toNat, by omega⟩
 obtain ⟨m, rfl⟩ : ∃ m : Nat, i2 = (m : Int) := ⟨i2.toNat, by omega⟩
 have hn1 : 105 ≤ n := by omega
 have hn2 : n ≤ 2000 := by omega
 have hm1 : 1 ≤ m := by omega
 have hm2 : m ≤ 50 := by omega
 obtain ⟨bs, hbs⟩ : ∃ bs, bs = enc (pz n) kf := ⟨_, rfl⟩
 obtain ⟨q1, q2, q3, q4⟩ := pz_facts (by omega) hn2 hbs
 obtain ⟨t, ht⟩ : ∃ t, t = 24 + n := ⟨_, rfl⟩
 obtain ⟨u, hu⟩ : ∃ u, u = 23 + n := ⟨_, rfl⟩
 rw [← ht] at q2 q3
 rw [← hu] at q4
 obtain ⟨P0, hP0⟩ : ∃ P0 : Nat → List Value, P0 = fun g => pc (pz n).h none 0 0 (some ⟨g, 0, none⟩) n n := ⟨_, rfl⟩
 obtain ⟨F0, hF0⟩ : ∃ F, F = fl kf := ⟨_, rfl⟩
 have BF0 : Hid (∀ w : World, (Instr.build 23 #[]).run Try.prog w = .ok (.agg F0.toArray) w) := Lib.hid (by rw [hF0]; exact bkf)
 have BP0 : Hid (∀ (g : Nat) (w : World), (Instr.build 41 #[(0, .int .u8 6), (13, .slice (some ⟨g, 0, none⟩) n n)]).run Try.prog w = .ok (.agg (P0 g).toArray) w) := Lib.hid (by rw [hP0]; exact fun g w => bpz g n w)
 have PL := Lib.hid (show ∀ g, (P0 g).length = 14 by rw [hP0]; intro g; rfl)
 have HZ := Lib.hid zP0
 have CN1 : Hid (∀ (M : List At) (w : World), St w0 X M w → Calls Try.prog 10 #[.agg F0.toArray, .int .i64 (t : Int)] w fun e w' => ∃ g, e = .returned (.tuple #[.pointer (some ⟨g, 0, none⟩), iv 0]) ∧ St w0 X (pR g { f := kf, mo := t } none 0 :: pO none none 0 { f := kf, mo := t } :: M) w') := Lib.hid (fun M w hs => by rw [hF0, ← Pd.fv_eq]; exact new_yes hs kf t (by unfold fits; simp only [Bool.and_eq_true, decide_eq_true_eq]; exact ⟨rfl, by omega, by omega⟩))
 have CN2 : Hid (∀ (M : List At) (w : World), St w0 X M w → Calls Try.prog 10 #[.agg F0.toArray, .int .i64 (u : Int)] w fun e w' => ∃ g, e = .returned (.tuple #[.pointer (some ⟨g, 0, none⟩), iv 0]) ∧ St w0 X (pR g { f := kf, mo := u } none 0 :: pO none none 0 { f := kf, mo := u } :: M) w') := Lib.hid (fun M w hs => by rw [hF0, ← Pd.fv_eq]; exact new_yes hs kf u (by unfold fits; simp only [Bool.and_eq_true, decide_eq_true_eq]; exact ⟨rfl, by omega, by omega⟩))
 have CJ : Hid (∀ (M : List At) (w : World) (g g' : Nat), St w0 X M w → Reads M (some ⟨g', 0, none⟩) (P0 g) → Reads M (some ⟨g, 0, none⟩) ((zs n).map v8) → Calls Try.prog 16 #[.agg F0.toArray, .slice (some ⟨g', 0, none⟩) 1 1] w fun e' w' => ∃ r B c, e' = .returned (.tuple #[.slice B t c, iv 0]) ∧ t ≤ c ∧ St w0 X (.own 1 r B t c (bs.map v8) :: M) w') := Lib.hid (fun M w g g' hs hr hz => by
  rw [hF0, ← Pd.fv_eq]
  refine join_st hs kf (R := [P0 g]) (ps := [pz n]) rfl (by simpa using hr) ?_ (by simp [pz]; omega) (by simp) q1 q2.symm
  rw [hP0]
  have h := (PP.nil (L := M)).snoc (p := pz n) (EA := none) (DA := some ⟨g, 0, none⟩) (ec := 0) (dc := n) Reads.nil hz
  simpa [pz] using h)
 have A1 : Hid (addE { f := kf, mo := t } bs = ({ f := kf, mo := t, b := bs }, 0)) := Lib.hid (by
  unfold addE
  rw [if_neg (by simp), if_neg (by simp only [List.length_nil]; omega)]
  rfl)
 have A2 : Hid (addE { f := kf, mo := u } (bs.take 8) = ({ f := kf, mo := u, b := bs.take 8 }, 0)) := Lib.hid (by
  unfold addE
  rw [if_neg (by simp), if_neg (by simp only [List.length_nil, List.length_take]; omega)]
  rfl)
 have A3 : Hid (addE { f := kf, mo := t, nb := t, np := 1 } (zs (4194304 + m)) = ({ f := kf, mo := t, nb := t, np := 1 }, 7)) := Lib.hid (by
  unfold addE
  rw [if_neg (by simp), if_pos (by simp only [List.length_nil, List.length_replicate]; omega)])
 have A4 : Hid (addE { f := kf, mo := u, e := 5 } (bs.drop 8) = ({ f := kf, mo := u, e := 5 }, 5)) := Lib.hid (by
  unfold addE
  rw [if_pos (by simp)])
 have HQ2 := Lib.hid q2
 have HQ3 := Lib.hid q3
 have HQ4 := Lib.hid q4
 have L8 := Lib.hid (show 8 = (bs.take 8).length by rw [List.length_take]; omega)
 have LD8 := Lib.hid (show t - 8 = (bs.drop 8).length by rw [List.length_drop]; omega)
 have x1 : (24 : Int) + (n : Int) = (t : Int) := by omega
 have x2 : (23 : Int) + (n : Int) = (u : Int) := by omega
 obtain ⟨kk, hkk⟩ : ∃ kk, kk = 4194304 + m := ⟨_, rfl⟩
 rw [← hkk] at A3
 have x3 : (4194304 : Int) + (m : Int) = (kk : Int) := by omega
 have hkk1 : kk ≤ 5000000 := by omega
 have ZKK := Lib.hid (show kk = (zs kk).length by simp)
 have RT : Hid (∀ (M : List At) (B : Option Addr), Reads M B (bs.map v8) → Reads M B ((bs.take 8).map v8)) := Lib.hid (fun M B h => by rw [List.map_take]; exact h.take 8)
 have RD : Hid (∀ (M : List At) (B : Option Addr) (c : Nat), ¬ c = 8 → Reads M B (bs.map v8) → Reads M (B.map (·.add 8)) ((bs.drop 8).map v8)) := Lib.hid (fun M B c hc h => by
  have h2 := sl_from (n := 0) (c := c) (k := 8) h (by omega) (fun h => absurd h hc)
  rwa [if_neg hc] at h2)
 have MT := Lib.hid (show t ≠ 0 ∧ u ≠ 0 by omega)
 have ht1 : t ≤ 2024 := by omega
 have ht2 : 129 ≤ t := by omega
 clear hbs q1 q2 q3 q4 ht hu hP0 hF0 h1 h2 h3 h4 hkk
 go_enter Try.func5, Try.ntmps5
 go_upto_region 4 with (first | ((with_reducible refine Se.isL (o := ⟨some 32, _, _, _, _, _⟩) ?_); (refine Se.toL rfl (Se.bd (o := ⟨some 32, _, _, _, _, _⟩) rfl rfl (BF0.out _) ?_))) | ((with_reducible refine Se.isL (o := ⟨some 35, _, _, _, _, _⟩) ?_); (refine Se.toL rfl (Se.bd (o := ⟨some 35, _, _, _, _, _⟩) rfl rfl (BP0.out _ _) ?_))) | ((with_reducible refine Se.isL (o := ⟨some 36, _, _, _, _, _⟩) ?_); (refine Se.toL rfl (Se.bs1 (o := ⟨some 36, _, _, _, _, _⟩) hs rfl Try.underlying31 pdu_i (by decide) (by decide) rfl ((PL.out _)) ?_); clear hs; rintro w g36 - hs)) | (with_reducible refine Se.isL (o := ⟨some 34, _, _, _, _, _⟩) ?_; refine Se.toL rfl (Se.mk hs rfl Try.underlying24 Pd.u8i3 rfl n n rfl rfl rfl rfl (Nat.le_refl _) (by omega) (by omega) ?_); clear hs; rintro w g34 - hs; rw [zsrep] at hs) | (go_at_call 16; refine Calls.mono (CJ.out _ _ g34 g36 hs (Reads.blk 0 rfl) (Reads.blk 1 rfl)) ?_; clear hs; rintro e w ⟨r, B, c, rfl, hc, hs⟩))
 have c8 : (8 : Int) ≤ (c : Int) := by omega
 have c8n : ¬ c = 8 := by omega
 have t8 : (8 : Int) ≤ (t : Int) := by omega
 clear CJ
 go_upto_region 8 with (first | ((with_reducible refine Se.isL (o := ⟨some 50, _, _, _, _, _⟩) ?_); (refine Se.toL rfl (Se.bd (o := ⟨some 50, _, _, _, _, _⟩) rfl rfl (BF0.out _) ?_))) | ((with_reducible refine Se.isL (o := ⟨some 57, _, _, _, _, _⟩) ?_); (refine Se.toL rfl (Se.bd (o := ⟨some 57, _, _, _, _, _⟩) rfl rfl (BF0.out _) ?_))) | (go_at_call 10; refine Calls.mono (CN1.out _ _ hs) ?_; clear hs; rintro e w ⟨gr, rfl, hs⟩) | (go_at_call 10; refine Calls.mono (CN2.out _ _ hs) ?_; clear hs; rintro e w ⟨gs, rfl, hs⟩))
 go_upto_region 10 with (first | (go_at_call 11; (first | refine Calls.mono (add_m [_, _] hs MT.out.1 bs HQ2.out.symm (Reads.own 2 rfl) (by simp) (by omega) A1.out) ?_ | refine Calls.mono (add_m [] hs MT.out.2 (bs.take 8) L8.out (RT.out _ _ (Reads.own 2 rfl)) (by simp) (by omega) A2.out) ?_); clear hs; rintro e w ⟨q1, Q1, d1, rfl, hs⟩))
 go_upto_region 11 with (first | ((with_reducible refine Se.isL (o := ⟨some 11, _, _, _, _, _⟩) ?_); (refine Se.toL rfl (Se.al (o := ⟨some 11, _, _, _, _, _⟩) hs rfl (HZ.out) ?_); clear hs; rintro w g11 - hs)) | ((with_reducible refine Se.isL (o := ⟨none, _, _, _, _, _⟩) ?_); (refine Se.toL rfl (Se.sow 0 hs rfl rfl rfl rfl ((by exact (pcl _ HPC.out).2)) ((by rw [(pcl _ HPC.out).1]; kernel_rfl)) ((by rw [(pcl _ HPC.out).1]; rfl)) ?_); clear hs; intro w hs; try simp only [List.cons_append, List.nil_append, List.set_cons_zero] at hs)) | (go_at_call 19; refine Calls.mono (next_m [_, _] hs MT.out.1 (by have := HQ2.out; simp only; omega) (by have := HQ2.out; simp only; omega) (by simp) HQ3.out) ?_; clear hs; rintro e w ⟨r1, EA, ec, r2, DA, dc, PC, r', B', c', rfl, HPC, hs⟩))
 have P13 := Lib.hid (show PC[13]? = some (.slice DA n dc) by rw [HPC.out]; simp [pz, pc])
 (try simp only [List.cons_append, List.nil_append] at hs)
 go_upto_region 12 with (first | ((with_reducible refine Se.isL (o := ⟨some 13, _, _, _, _, _⟩) ?_); (refine Se.toL rfl (Se.al (o := ⟨some 13, _, _, _, _, _⟩) hs rfl (HZ.out) ?_); clear hs; rintro w g13 - hs)) | ((with_reducible refine Se.isL (o := ⟨none, _, _, _, _, _⟩) ?_); (refine Se.toL rfl (Se.sow 0 hs rfl rfl rfl rfl ((by exact (pcl _ HQC.out).2)) ((by rw [(pcl _ HQC.out).1]; kernel_rfl)) ((by rw [(pcl _ HQC.out).1]; rfl)) ?_); clear hs; intro w hs; try simp only [List.cons_append, List.nil_append, List.set_cons_zero] at hs)) | (go_at_call 19; refine Calls.mono (next_m [_, _, _] hs MT.out.2 (by simp only [List.length_take]; omega) (by simp only [List.length_take]; omega) (by simp) HQ4.out) ?_; clear hs; rintro e w ⟨r3, EB, ed, r4, DB, dd, QC, r5, B5, c5, rfl, HQC, hs⟩))
 (try simp only [List.cons_append, List.nil_append] at hs)
 go_upto_region 13 with (first | (with_reducible refine Se.isL (o := ⟨some 103, _, _, _, _, _⟩) ?_; refine Se.toL rfl (Se.mk hs rfl Try.underlying24 Pd.u8i3 rfl kk kk rfl rfl rfl rfl (Nat.le_refl _) (by omega) (by omega) ?_); clear hs; rintro w g103 - hs; rw [zsrep] at hs) | (go_at_call 11; refine Calls.mono (add_m [_, _, _, _, _, _, _, _, _] hs MT.out.1 (zs kk) ZKK.out (Reads.blk 0 rfl) (by simp) (by omega) A3.out) ?_; clear hs; rintro e w ⟨r6, B6, c6, rfl, hs⟩))
 (try simp only [List.cons_append, List.nil_append] at hs)
 go_wp2_with (first | ((with_reducible refine Se.isL (o := ⟨some 109, _, _, _, _, _⟩) ?_); (refine Se.toL rfl (Se.ld (o := ⟨some 109, _, _, _, _, _⟩) hs rfl rfl (Cell.blk 4 rfl P13.out) (by kernel_rfl) ?_))) | (go_at_call 11; refine Calls.mono (add_m [_, _, _, _, _, _, _] hs MT.out.2 (bs.drop 8) LD8.out (RD.out _ _ _ c8n (Reads.own 9 rfl)) (by simp) (by omega) A4.out) ?_; clear hs; rintro e w ⟨r7, B7, c7, rfl, hs⟩) | (go_at_call 20; refine Calls.mono (held_m [_, _, _, _, _, _, _, _, _] hs (n := 0) rfl) ?_; clear hs; rintro e w ⟨rfl, hs⟩) | (go_at_call 9; refine Calls.mono (CK.out [_, _, _, _, _, _, _, _, _, _, _, _, _, _] _ hs) ?_; clear hs; rintro e w ⟨rfl, hs⟩))
 go_ret
 exact ⟨rfl, hs.drop.drop.drop.drop.drop.drop.drop.drop.drop.drop.drop.drop.drop.drop⟩
theorem limits_any (i1 i2 : Int) (W : World) : Calls Try.prog 5 #[.int .i64 i1, .int .i64 i2] W fun e w' => e = .returned (.bool true) ∧ Below W.heap.size W w' :=
 (limits_st (L := []) (St.start W (by simp) rfl) i1 i2).mono fun e w' h => ⟨h.1, h.2.below⟩
end Sr
end Go.Proofs.Ytdngfcmakjlamaa


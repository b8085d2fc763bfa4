/- Layer 35: the law PduBack, the walk. No condition. -/
import Derived.Test.YtgpbmohfgjmpkaaPduDecL
import Derived.Test.YtgpbmohfgjmpkaaPduBk
import Derived.Test.YtgpbmohfgjmpkaaPduApart
set_option linter.unusedSimpArgs false
set_option linter.unusedVariables false
namespace Go.Proofs.Ytgpbmohfgjmpkaa
open Go Go.RowKit
namespace Pd
open Se (St At Reads Cell)
open Li (v8 v8_one Rd Blk Fr)
open Bv (n8 n16 n32 n64)
variable {w0 w : World} {X : List Nat} {L : List At}
attribute [local irreducible] Calls
theorem own_le {s : Nat} {r : Option Nat} {A : Option Addr} {n c : Nat} {xs : List Value} (hs : St w0 X L w) (hm : At.own s r A n c xs ∈ L) : n ≤ c := by
  have h : Se.Ow w s r A n c xs := hs.hold _ hm
  exact h.2.1
/-- A call of Encode, its length bounded. -/
theorem encodeN_st (hs : St w0 X L w) (p : PDU) (f : Fm) {EA DA : Option Addr} {en ec dn dc : Nat} (hE : Reads L EA (p.en.map v8)) (hD : Reads L DA (p.da.map v8)) (he : en = p.en.length) (hd : dn = p.da.length) (le : en ≤ 70368744177664) (ld : dn ≤ 70368744177664) {bs : List (BitVec 8)} {e : Nat} (hr : encE p f = (bs, e)) {m : Nat} (hm : m = bs.length) :
    Calls Try.prog 12 #[.agg (pc p.h EA en ec DA dn dc).toArray, fv f] w fun e' w' => ∃ r B c, e' = .returned (.tuple #[.slice B m c, iv e]) ∧ m ≤ c ∧ St w0 X (.own 1 r B m c (bs.map v8) :: L) w' :=
  (encode_st hs p f hE hD he hd le ld hr hm).mono (by
    rintro e' w' ⟨r, B, c, h1, h2⟩
    exact ⟨r, B, c, h1, own_le h2 List.mem_cons_self, h2⟩)
theorem encE_cases (p : PDU) (f : Fm) : (framed f = true ∧ valid p = true ∧ encE p f = (enc p f, 0)) ∨ encE p f = ([], 2) := by
  unfold encE
  by_cases h1 : framed f = true
  · by_cases h2 : valid p = true
    · left; exact ⟨h1, h2, by rw [if_pos h1, if_pos h2]⟩
    · right; rw [if_pos h1, if_neg h2]
  · right; rw [if_neg h1]
set_option maxRecDepth 100000 in
set_option maxHeartbeats 4000000 in
theorem back_st (hs : St w0 X L w) (p : PDU) (bs : List (BitVec 8)) (f : Fm) {EA DA S : Option Addr} {en ec dn dc n c : Nat} (he : en = p.en.length) (rE : Reads L EA (p.en.map v8)) (hd : dn = p.da.length) (rD : Reads L DA (p.da.map v8)) (hn : n = bs.length) (hS : Reads L S (bs.map v8)) (hc : n ≤ c) :
    Calls Try.prog 7 #[.agg (pc p.h EA en ec DA dn dc).toArray, .slice S n c, fv f] w fun e' w' => e' = .returned (.bool true) ∧ St w0 X L w' := by
  obtain ⟨P, hP⟩ : ∃ P, P = pc p.h EA en ec DA dn dc := ⟨_, rfl⟩
  obtain ⟨F, hF⟩ : ∃ F, F = fl f := ⟨_, rfl⟩
  obtain ⟨b1, hb1⟩ : ∃ b, (decide (3000 < dn) || decide (100 < en)) = b := ⟨_, rfl⟩
  have PL := Lib.hid (show P.length = 14 by rw [hP]; rfl)
  have FL := Lib.hid (show F.length = 3 by rw [hF]; rfl)
  have HZ := Lib.hid zPdu3
  have CK : Hid (∀ (L' : List At) (w : World), St w0 X (L' ++ L) w → Calls Try.prog 11 #[] w fun e w' => e = .returned (.bool true) ∧ St w0 X (L' ++ L) w') := Lib.hid (fun L' w hs => known_st hs)
  have CL : Hid (∀ (L' : List At) (w : World), St w0 X (L' ++ L) w → Calls Try.prog 10 #[.agg P.toArray] w fun e w' => e = .returned (.bool b1) ∧ St w0 X (L' ++ L) w') := Lib.hid (fun L' w hs => by rw [hP]; exact long_st hs p.h hb1)
  cases b1 with
  | true =>
    rw [fv_eq, ← hF, ← hP]
    clear hF hP hb1 hn hS hc he rE hd rD
    go_enter Try.func7, Try.ntmps7
    go_wp2_with (first | ((with_reducible refine Se.isL (o := ⟨some 17, _, _, _, _, _⟩) ?_); (refine Se.toL rfl (Se.ldw (o := ⟨some 17, _, _, _, _, _⟩) hs rfl rfl ((Reads.blk 1 rfl)) ((by rw [PL.out]; kernel_rfl)) (by kernel_rfl) ?_))) | ((first | with_reducible refine Se.ab hs ?_ | with_reducible refine Se.abc hs ?_); clear hs; (first | ((fail_if_success (have _q := g3)); generalize w.heap.size = g3; intro w hs) | (generalize w.heap.size = g5; intro w hs))) | (go_at_call 10; refine Calls.mono (CL.out [_, _] _ hs) ?_; clear hs; rintro e w ⟨rfl, hs⟩) | (go_at_call 11; refine Calls.mono (CK.out [_, _] _ hs) ?_; clear hs; rintro e w ⟨rfl, hs⟩))
    go_ret
    exact ⟨rfl, hs.drop.drop⟩
  | false =>
  by_cases h3 : 3000 < n
  · rw [fv_eq, ← hF, ← hP]
    have h3' : decide ((3000 : Int) < (n : Int)) = true := by simp; omega
    clear h3 hF hP hb1 hn hS hc he rE hd rD
    go_enter Try.func7, Try.ntmps7
    go_wp2_with (first | ((with_reducible refine Se.isL (o := ⟨some 17, _, _, _, _, _⟩) ?_); (refine Se.toL rfl (Se.ldw (o := ⟨some 17, _, _, _, _, _⟩) hs rfl rfl ((Reads.blk 1 rfl)) ((by rw [PL.out]; kernel_rfl)) (by kernel_rfl) ?_))) | ((first | with_reducible refine Se.ab hs ?_ | with_reducible refine Se.abc hs ?_); clear hs; (first | ((fail_if_success (have _q := g3)); generalize w.heap.size = g3; intro w hs) | (generalize w.heap.size = g5; intro w hs))) | (go_at_call 10; refine Calls.mono (CL.out [_, _] _ hs) ?_; clear hs; rintro e w ⟨rfl, hs⟩) | (go_at_call 11; refine Calls.mono (CK.out [_, _] _ hs) ?_; clear hs; rintro e w ⟨rfl, hs⟩))
    go_ret
    exact ⟨rfl, hs.drop.drop⟩
  have hdn : dn ≤ 3000 ∧ en ≤ 100 := by
    simp only [Bool.or_eq_false_iff, decide_eq_false_iff_not] at hb1; omega
  have hle : n ≤ 70368744177664 := by omega
  have h3' : decide ((3000 : Int) < (n : Int)) = false := by simp; omega
  obtain ⟨⟨xb, ee⟩, hE⟩ : ∃ x, encE p f = x := ⟨_, rfl⟩
  obtain ⟨m, hm⟩ : ∃ m, m = xb.length := ⟨_, rfl⟩
  have hee : (ee = 0 ∧ framed f = true ∧ valid p = true ∧ xb = enc p f) ∨ ee = 2 := by
    rcases encE_cases p f with ⟨a1, a2, a3⟩ | a3
    · rw [a3] at hE; cases hE; exact .inl ⟨rfl, a1, a2, rfl⟩
    · rw [a3] at hE; cases hE; exact .inr rfl
  have CE : Hid (∀ (L' : List At) (w : World), St w0 X (L' ++ L) w → Calls Try.prog 12 #[.agg P.toArray, .agg F.toArray] w fun e' w' => ∃ r B c, e' = .returned (.tuple #[.slice B m c, iv ee]) ∧ m ≤ c ∧ St w0 X (.own 1 r B m c (xb.map v8) :: (L' ++ L)) w') := Lib.hid (fun L' w hs => by rw [hP, hF, ← fv_eq]; exact encodeN_st hs p f (rE.app L') (rD.app L') he hd (by omega) (by omega) hE hm)
  -- what Decode, Measure and Same answer at the encoding
  have CD1 : Hid (ee = 0 → ∀ (M : List At) (w : World) (r : Option Nat) (B : Option Addr) (cc : Nat), m ≤ cc → St w0 X (.own 1 r B m cc (xb.map v8) :: M) w → Calls Try.prog 22 #[.slice B m cc, .agg F.toArray] w fun r' w' => ∃ r1 QA ec r2 QD dc PC, r' = .returned (.tuple #[.agg PC.toArray, iv 0]) ∧ Hid (PC = pc p.h QA p.en.length ec QD p.da.length dc) ∧ St w0 X (.own 1 r1 QA p.en.length ec (p.en.map v8) :: .own 1 r2 QD p.da.length dc (p.da.map v8) :: .own 1 r B m cc (xb.map v8) :: M) w') := Lib.hid (fun h0 M w r B cc hcc hs => by
    rcases hee with ⟨_, a1, a2, a3⟩ | a1
    · rw [hF, ← fv_eq]
      refine decodeN_st hs xb f hm (Reads.own 0 rfl) hcc ?_ (by rw [a3]; exact dec_enc a1 a2)
      have := size_lt a1 a2
      rw [hm, a3, enc_len p f a1 a2]; omega
    · omega)
  have CM1 : Hid (ee = 0 → ∀ (M : List At) (w : World) (r : Option Nat) (B : Option Addr) (cc k : Nat), m ≤ cc → St w0 X M w → M[k]? = some (.own 1 r B m cc (xb.map v8)) → Calls Try.prog 18 #[.slice B m cc, .agg F.toArray] w fun e' w' => e' = .returned (.tuple #[iv m, iv 0]) ∧ St w0 X M w') := Lib.hid (fun h0 M w r B cc k hcc hs hk => by
    rcases hee with ⟨_, a1, a2, a3⟩ | a1
    · rw [hF, ← fv_eq]
      refine measureD_st hs xb f hm (Reads.own k hk) hcc ?_ (by rw [hm, a3, enc_len p f a1 a2]; exact meas_enc a1 a2)
      have := size_lt a1 a2
      rw [hm, a3, enc_len p f a1 a2]; omega
    · omega)
  have CS1 : Hid (∀ (M : List At) (w : World) (QA QD : Option Addr) (e2 d2 : Nat) (PC : List Value), Hid (PC = pc p.h QA p.en.length e2 QD p.da.length d2) → Reads (M ++ L) QA (p.en.map v8) → Reads (M ++ L) QD (p.da.map v8) → St w0 X (M ++ L) w → Calls Try.prog 21 #[.agg P.toArray, .agg PC.toArray] w fun e w' => e = .returned (.bool true) ∧ St w0 X (M ++ L) w') := Lib.hid (fun M w QA QD e2 d2 PC hPC h1 h2 hs => by
    rw [hPC.out, hP]
    exact rSame_st hs p.h p.h he rfl hd rfl (rE.app M) h1 (rD.app M) h2 (same_self p))
  -- the bytes that came in
  obtain ⟨⟨q, e2⟩, hdq⟩ : ∃ x, dec bs f = x := ⟨_, rfl⟩
  have CD2 : Hid (∀ (L' : List At) (w : World), St w0 X (L' ++ L) w → Calls Try.prog 22 #[.slice S n c, .agg F.toArray] w fun r w' => ∃ r1 QA ec r2 QD dc PC, r = .returned (.tuple #[.agg PC.toArray, iv e2]) ∧ Hid (PC = pc q.h QA q.en.length ec QD q.da.length dc) ∧ St w0 X (.own 1 r1 QA q.en.length ec (q.en.map v8) :: .own 1 r2 QD q.da.length dc (q.da.map v8) :: (L' ++ L)) w') := Lib.hid (fun L' w hs => by rw [hF, ← fv_eq]; exact decodeN_st hs bs f hn (hS.app L') hc hle hdq)
  have HQ : Hid (e2 = 0 → framed f = true ∧ valid q = true ∧ encE q f = (bs, 0) ∧ q.en.length ≤ 70368744177664 ∧ q.da.length ≤ 70368744177664) := Lib.hid (fun h0 => by
    subst h0
    obtain ⟨a1, a2, a3, _⟩ := enc_dec hdq
    refine ⟨a1, a2, by rw [encE_ok a1 a2, a3], ?_, ?_⟩
    · have h4 := special_len q a2
      have h5 := hdr_bd (hdr_ne a2)
      rcases k_cases a2 with h | h | h | h | h | h | h | h | h
      all_goals (have h6 := (rd_special a2 (fl := flagsN q 0 0) (bit_flags q 0 0).2.2.1 (bit_flags q 0 0).2.2.2).2.1; rw [← h6, h]; simp [rdE]; try omega)
    · have := valid_parts a2
      have := most_le q.h.k.toNat
      omega)
  have CE2 : Hid (e2 = 0 → ∀ (M : List At) (w : World) (r1 r2 : Option Nat) (QA QD : Option Addr) (ec2 dc2 : Nat) (PC : List Value), Hid (PC = pc q.h QA q.en.length ec2 QD q.da.length dc2) → Reads M QA (q.en.map v8) → Reads M QD (q.da.map v8) → St w0 X M w → Calls Try.prog 12 #[.agg PC.toArray, .agg F.toArray] w fun e' w' => ∃ r B c, e' = .returned (.tuple #[.slice B n c, iv 0]) ∧ St w0 X (.own 1 r B n c (bs.map v8) :: M) w') := Lib.hid (fun h0 M w r1 r2 QA QD ec2 dc2 PC hPC h1 h2 hs => by
    obtain ⟨a1, a2, a3, a4, a5⟩ := HQ.out h0
    rw [hPC.out, hF, ← fv_eq]
    exact encode_st hs q f h1 h2 rfl rfl a4 a5 a3 hn)
  have CV2 : Hid (e2 = 0 → ∀ (M : List At) (w : World) (QA QD : Option Addr) (ec2 dc2 : Nat) (PC : List Value), Hid (PC = pc q.h QA q.en.length ec2 QD q.da.length dc2) → Reads M QA (q.en.map v8) → Reads M QD (q.da.map v8) → St w0 X M w → Calls Try.prog 14 #[.agg PC.toArray] w fun e w' => e = .returned (.bool true) ∧ St w0 X M w') := Lib.hid (fun h0 M w QA QD ec2 dc2 PC hPC h1 h2 hs => by
    obtain ⟨a1, a2, a3, a4, a5⟩ := HQ.out h0
    rw [hPC.out]
    exact validP_st hs q h1 h2 rfl rfl a4 a5 a2)
  have HEE : Hid (ee = 0 ∨ ee = 2) := Lib.hid (by rcases hee with ⟨a, _⟩ | a <;> simp [a])
  have HS := Lib.hid hS
  have HN := Lib.hid hn
  have HPC := Lib.hid hP
  rw [fv_eq, ← hF, ← hP]
  clear h3 hF hP hb1 hn hS hc he rE hd rD hdn hle hE hm hee hdq HQ
  go_enter Try.func7, Try.ntmps7
  go_upto_if 32 with (first | ((with_reducible refine Se.isL (o := ⟨some 17, _, _, _, _, _⟩) ?_); (refine Se.toL rfl (Se.ldw (o := ⟨some 17, _, _, _, _, _⟩) hs rfl rfl ((Reads.blk 1 rfl)) ((by rw [PL.out]; kernel_rfl)) (by kernel_rfl) ?_))) | ((with_reducible refine Se.isL (o := ⟨some 26, _, _, _, _, _⟩) ?_); (refine Se.toL rfl (Se.ldw (o := ⟨some 26, _, _, _, _, _⟩) hs rfl rfl ((Reads.blk 1 rfl)) ((by rw [PL.out]; kernel_rfl)) (by kernel_rfl) ?_))) | ((with_reducible refine Se.isL (o := ⟨some 27, _, _, _, _, _⟩) ?_); (refine Se.toL rfl (Se.ldw (o := ⟨some 27, _, _, _, _, _⟩) hs rfl rfl ((Reads.blk 0 rfl)) ((by rw [FL.out]; kernel_rfl)) (by kernel_rfl) ?_))) | ((first | with_reducible refine Se.ab hs ?_ | with_reducible refine Se.abc hs ?_); clear hs; (first | ((fail_if_success (have _q := g3)); generalize w.heap.size = g3; intro w hs) | (generalize w.heap.size = g5; intro w hs))) | (go_at_call 10; refine Calls.mono (CL.out [_, _] _ hs) ?_; clear hs; rintro e w ⟨rfl, hs⟩) | (go_at_call 12; refine Calls.mono (CE.out [_, _] _ hs) ?_; clear hs; rintro e w ⟨r, B, cB, rfl, hcB, hs⟩))
  go_cut [6] (fun s6 wx => ∃ Q : List At, s6 = .bool false ∧ St w0 X ([.blk g3 27 P, .blk g5 29 F] ++ (Q ++ L)) wx)
  case first =>
    rcases HEE.out with rfl | rfl
    · have mm : ((m : Int) != (m : Int)) = false := by simp
      replace CD1 := Lib.hid (CD1.out rfl)
      replace CM1 := Lib.hid (CM1.out rfl)
      go_wp2_with (first | ((with_reducible refine Se.isL (o := ⟨some 35, _, _, _, _, _⟩) ?_); (refine Se.toL rfl (Se.ldw (o := ⟨some 35, _, _, _, _, _⟩) hs rfl rfl ((Reads.blk 1 rfl)) ((by rw [FL.out]; kernel_rfl)) (by kernel_rfl) ?_))) | ((with_reducible refine Se.isL (o := ⟨some 9, _, _, _, _, _⟩) ?_); (refine Se.toL rfl (Se.al (o := ⟨some 9, _, _, _, _, _⟩) hs rfl (HZ.out) ?_); clear hs; rintro w g9 - hs)) | ((with_reducible refine Se.isL (o := ⟨none, _, _, _, _, _⟩) ?_); (refine Se.toL rfl (Se.sow 0 hs rfl rfl rfl rfl ((by rw [HPD.out]; exact pc_one _ _ _ _ _ _ _)) ((by rw [HPD.out]; kernel_rfl)) ((by rw [HPD.out]; rfl)) ?_); clear hs; intro w hs; try simp only [List.cons_append, List.nil_append, List.set_cons_zero] at hs)) | ((with_reducible refine Se.isL (o := ⟨some 41, _, _, _, _, _⟩) ?_); (refine Se.toL rfl (Se.ldw (o := ⟨some 41, _, _, _, _, _⟩) hs rfl rfl ((Reads.blk 4 rfl)) ((by rw [FL.out]; kernel_rfl)) (by kernel_rfl) ?_))) | ((with_reducible refine Se.isL (o := ⟨some 48, _, _, _, _, _⟩) ?_); (refine Se.toL rfl (Se.ldw (o := ⟨some 48, _, _, _, _, _⟩) hs rfl rfl ((Reads.blk 5 rfl)) ((by rw [PL.out]; kernel_rfl)) (by kernel_rfl) ?_))) | ((with_reducible refine Se.isL (o := ⟨some 49, _, _, _, _, _⟩) ?_); (refine Se.toL rfl (Se.ldw (o := ⟨some 49, _, _, _, _, _⟩) hs rfl rfl ((Reads.blk 0 rfl)) ((by rw [HPD.out]; kernel_rfl)) (by kernel_rfl) ?_))) | (go_at_call 22; refine Calls.mono (CD1.out _ _ _ _ _ hcB hs) ?_; clear hs; rintro e w ⟨r1, QA, ec', r2, QD, dc', PC, rfl, HPD, hs⟩) | (go_at_call 18; refine Calls.mono (CM1.out _ _ _ _ _ 3 hcB hs rfl) ?_; clear hs; rintro e w ⟨rfl, hs⟩) | (go_at_call 21; refine Calls.mono (CS1.out [_, _, _, _, _, _] _ _ _ _ _ _ HPD (Reads.own 1 rfl) (Reads.own 2 rfl) hs) ?_; clear hs; rintro e w ⟨rfl, hs⟩))
      go_meet
      replace hs := hs.pull 3 rfl
      replace hs := hs.pull 3 rfl
      replace hs := hs.pull 3 rfl
      replace hs := hs.pull 3 rfl
      replace hs := hs.pull 4 rfl
      replace hs := hs.pull 5 rfl
      simp only [List.eraseIdx_cons_succ, List.eraseIdx_cons_zero] at hs
      exact ⟨[.blk g9 27 PC, .own 1 r1 QA p.en.length ec' (p.en.map v8), .own 1 r2 QD p.da.length dc' (p.da.map v8), .own 1 r B m cB (xb.map v8)], rfl, hs⟩
    · go_wp2_with fail
      go_meet
      replace hs := hs.pull 0 rfl
      replace hs := hs.pull 1 rfl
      replace hs := hs.pull 2 rfl
      simp only [List.eraseIdx_cons_succ, List.eraseIdx_cons_zero] at hs
      exact ⟨[.own 1 r B m cB (xb.map v8)], rfl, hs⟩
  case rest =>
  clear hs CD1 CM1 CS1 CE CL HEE
  obtain ⟨Q, rfl, hs⟩ := hcut
  rename World => w
  have CD3 : Hid (∀ (L' : List At) (w : World), St w0 X (L' ++ (Q ++ L)) w → Calls Try.prog 22 #[.slice S n c, .agg F.toArray] w fun r w' => ∃ r1 QA ec r2 QD dc PC, r = .returned (.tuple #[.agg PC.toArray, iv e2]) ∧ Hid (PC = pc q.h QA q.en.length ec QD q.da.length dc) ∧ St w0 X (.own 1 r1 QA q.en.length ec (q.en.map v8) :: .own 1 r2 QD q.da.length dc (q.da.map v8) :: (L' ++ (Q ++ L))) w') := Lib.hid (fun L' w hs => by
    have h := CD2.out (L' ++ Q) w
    rw [List.append_assoc] at h
    exact h hs)
  have CK3 : Hid (∀ (L' : List At) (w : World), St w0 X (L' ++ (Q ++ L)) w → Calls Try.prog 11 #[] w fun e w' => e = .returned (.bool true) ∧ St w0 X (L' ++ (Q ++ L)) w') := Lib.hid (fun L' w hs => known_st hs)
  have HS3 : Hid (Reads (Q ++ L) S (bs.map v8)) := Lib.hid (HS.out.app Q)
  have HF3 : Hid (∀ w, St w0 X (Q ++ L) w → St w0 X L w) := Lib.hid (fun w h => h.sub (List.sublist_append_right _ _))
  clear CD2 CK HS
  generalize Q ++ L = L3 at *
  go_upto_if 70 with (first | ((with_reducible refine Se.isL (o := ⟨some 65, _, _, _, _, _⟩) ?_); (refine Se.toL rfl (Se.ldw (o := ⟨some 65, _, _, _, _, _⟩) hs rfl rfl ((Reads.blk 1 rfl)) ((by rw [FL.out]; kernel_rfl)) (by kernel_rfl) ?_))) | ((with_reducible refine Se.isL (o := ⟨some 13, _, _, _, _, _⟩) ?_); (refine Se.toL rfl (Se.al (o := ⟨some 13, _, _, _, _, _⟩) hs rfl (HZ.out) ?_); clear hs; rintro w g13 - hs)) | ((with_reducible refine Se.isL (o := ⟨none, _, _, _, _, _⟩) ?_); (refine Se.toL rfl (Se.sow 0 hs rfl rfl rfl rfl ((by rw [HQC.out]; exact pc_one _ _ _ _ _ _ _)) ((by rw [HQC.out]; kernel_rfl)) ((by rw [HQC.out]; rfl)) ?_); clear hs; intro w hs; try simp only [List.cons_append, List.nil_append, List.set_cons_zero] at hs)) | (go_at_call 22; refine Calls.mono (CD3.out [_, _] _ hs) ?_; clear hs; rintro e w ⟨r1, QA, ec', r2, QD, dc', QC, rfl, HQC, hs⟩))
  by_cases h2 : e2 = 0
  · subst h2
    replace CE2 := Lib.hid (CE2.out rfl)
    replace CV2 := Lib.hid (CV2.out rfl)
    go_upto_region 12 with (first | ((with_reducible refine Se.isL (o := ⟨some 72, _, _, _, _, _⟩) ?_); (refine Se.toL rfl (Se.ldw (o := ⟨some 72, _, _, _, _, _⟩) hs rfl rfl ((Reads.blk 0 rfl)) ((by rw [HQC.out]; kernel_rfl)) (by kernel_rfl) ?_))) | ((with_reducible refine Se.isL (o := ⟨some 73, _, _, _, _, _⟩) ?_); (refine Se.toL rfl (Se.ldw (o := ⟨some 73, _, _, _, _, _⟩) hs rfl rfl ((Reads.blk 4 rfl)) ((by rw [FL.out]; kernel_rfl)) (by kernel_rfl) ?_))) | (go_at_call 12; refine Calls.mono (CE2.out _ _ r1 r2 _ _ _ _ _ HQC (Reads.own 1 rfl) (Reads.own 2 rfl) hs) ?_; clear hs; rintro e w ⟨r, B2, cc, rfl, hs⟩))
    have c1 : (convert 23 9 (.slice B2 n cc)).run Try.prog w = .ok (.string (strB bs)) w := run_str w Try.underlying23 Try.underlying5 Try.underlying9 HN.out ((Reads.own 0 rfl) w hs.hold)
    have c2 : (convert 23 9 (.slice S n c)).run Try.prog w = .ok (.string (strB bs)) w := run_str w Try.underlying23 Try.underlying5 Try.underlying9 HN.out ((HS3.out.app [_, _, _, _, _, _]) w hs.hold)
    go_wp2_with (first | ((with_reducible refine Se.isL (o := ⟨some 87, _, _, _, _, _⟩) ?_); (refine Se.toL rfl (Se.ldw (o := ⟨some 87, _, _, _, _, _⟩) hs rfl rfl ((Reads.blk 1 rfl)) ((by rw [HQC.out]; kernel_rfl)) (by kernel_rfl) ?_))) | (go_at_call 14; refine Calls.mono (CV2.out _ _ _ _ _ _ _ HQC (Reads.own 2 rfl) (Reads.own 3 rfl) hs) ?_; clear hs; rintro e w ⟨rfl, hs⟩) | (go_at_call 11; refine Calls.mono (CK3.out [_, _, _, _, _, _] _ hs) ?_; clear hs; rintro e w ⟨rfl, hs⟩))
    go_ret
    exact ⟨rfl, HF3.out _ hs.drop.drop.drop.drop.drop.drop⟩
  · have e0 : ((e2 : Int) == 0) = false := by simp; omega
    clear h2
    go_wp2_with (first | (go_at_call 11; refine Calls.mono (CK3.out [_, _, _, _, _] _ hs) ?_; clear hs; rintro e w ⟨rfl, hs⟩))
    go_ret
    exact ⟨rfl, HF3.out _ hs.drop.drop.drop.drop.drop⟩
theorem back_any (p : PDU) (bs : List (BitVec 8)) (f : Fm) {EA DA S : Option Addr} {en ec dn dc n c : Nat} (w0 : World) (he : en = p.en.length) (rE : Rd w0 EA (p.en.map v8)) (hd : dn = p.da.length) (rD : Rd w0 DA (p.da.map v8)) (hn : n = bs.length) (hS : Rd w0 S (bs.map v8)) (hc : n ≤ c) :
    Calls Try.prog 7 #[.agg (pc p.h EA en ec DA dn dc).toArray, .slice S n c, fv f] w0 fun e w' => e = .returned (.bool true) ∧ Below w0.heap.size w0 w' := by
  have hs : St w0 [] [.rd EA (p.en.map v8), .rd DA (p.da.map v8), .rd S (bs.map v8)] w0 := St.start w0 (by
    intro a ha
    simp only [List.mem_cons, List.not_mem_nil, or_false] at ha
    rcases ha with rfl | rfl | rfl
    · exact rE
    · exact rD
    · exact hS) (by simp [Se.ownedL, Se.At.owned])
  exact (back_st hs p bs f he (Reads.rd 0 rfl) hd (Reads.rd 1 rfl) hn (Reads.rd 2 rfl) hc).mono fun e w' h => ⟨h.1, h.2.below⟩
end Pd
end Go.Proofs.Ytgpbmohfgjmpkaa

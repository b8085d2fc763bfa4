/- Layer 35: the law PduOwn, the walk. No condition. Printed by wip/gen_pduown.py. -/
import Derived.Test.YtgpbmohfgjmpkaaPduBackL
set_option linter.unusedSimpArgs false
set_option linter.unusedVariables false
namespace Go.Proofs.Ytgpbmohfgjmpkaa
open Go Go.RowKit
namespace Pd
open Se (St At Reads Cell)
open Li (v8 v8_one Rd Blk Fr)
open Bv (n8 n16 n32 n64)
variable {w0 w : World} {X : List Nat} {L : List At}
attribute [local irreducible] Calls
attribute [local go_sem ↓] Bv.add_n8
attribute [local go_sem] Bv.of_n8
theorem one8 : BitVec.ofInt 8 1 = 1#8 := by decide
attribute [local go_sem] one8
set_option maxRecDepth 100000 in
set_option maxHeartbeats 4000000 in
theorem own_st (hs : St w0 X L w) (p : PDU) (f : Fm) {EA DA : Option Addr} {en ec dn dc : Nat} (he : en = p.en.length) (rE : Reads L EA (p.en.map v8)) (hd : dn = p.da.length) (rD : Reads L DA (p.da.map v8)) :
    Calls Try.prog 9 #[.agg (pc p.h EA en ec DA dn dc).toArray, fv f] w fun e' w' => e' = .returned (.bool true) ∧ St w0 X L w' := by
  obtain ⟨P, hP⟩ : ∃ P, P = pc p.h EA en ec DA dn dc := ⟨_, rfl⟩
  obtain ⟨F, hF⟩ : ∃ F, F = fl f := ⟨_, rfl⟩
  obtain ⟨b1, hb1⟩ : ∃ b, (decide (3000 < dn) || decide (100 < en)) = b := ⟨_, rfl⟩
  have PL := Lib.hid (show P.length = 14 by rw [hP]; rfl)
  have PO := Lib.hid (show ∀ v ∈ P, v.oneCell' = true by rw [hP]; exact pc_one _ _ _ _ _ _ _)
  have FL := Lib.hid (show F.length = 3 by rw [hF]; rfl)
  have HZ := Lib.hid zPdu3
  have CK : Hid (∀ (L' : List At) (w : World), St w0 X (L' ++ L) w → Calls Try.prog 11 #[] w fun e w' => e = .returned (.bool true) ∧ St w0 X (L' ++ L) w') := Lib.hid (fun L' w hs => known_st hs)
  have CL : Hid (∀ (L' : List At) (w : World), St w0 X (L' ++ L) w → Calls Try.prog 10 #[.agg P.toArray] w fun e w' => e = .returned (.bool b1) ∧ St w0 X (L' ++ L) w') := Lib.hid (fun L' w hs => by rw [hP]; exact long_st hs p.h hb1)
  cases b1 with
  | true =>
    rw [fv_eq, ← hF, ← hP]
    clear hF hP hb1 he rE hd rD
    go_enter Try.func9, Try.ntmps9
    go_wp2_with (first | ((with_reducible refine Se.isL (o := ⟨some 15, _, _, _, _, _⟩) ?_); (refine Se.toL rfl (Se.ldw (o := ⟨some 15, _, _, _, _, _⟩) hs rfl rfl ((Reads.blk 1 rfl)) ((by rw [PL.out]; kernel_rfl)) (by kernel_rfl) ?_))) | ((first | with_reducible refine Se.ab hs ?_ | with_reducible refine Se.abc hs ?_); clear hs; (first | ((fail_if_success (have _q := g2)); generalize w.heap.size = g2; intro w hs) | (generalize w.heap.size = g3; intro w hs))) | (go_at_call 10; refine Calls.mono (CL.out [_, _] _ hs) ?_; clear hs; rintro e w ⟨rfl, hs⟩) | (go_at_call 11; refine Calls.mono (CK.out [_, _] _ hs) ?_; clear hs; rintro e w ⟨rfl, hs⟩))
    go_ret
    exact ⟨rfl, hs.drop.drop⟩
  | false =>
  have hdn : dn ≤ 3000 ∧ en ≤ 100 := by
    simp only [Bool.or_eq_false_iff, decide_eq_false_iff_not] at hb1; omega
  obtain ⟨⟨xb, ee⟩, hE⟩ : ∃ x, encE p f = x := ⟨_, rfl⟩
  obtain ⟨m, hm⟩ : ∃ m, m = xb.length := ⟨_, rfl⟩
  have hee : (ee = 0 ∧ framed f = true ∧ valid p = true ∧ xb = enc p f) ∨ ee = 2 := by
    rcases encE_cases p f with ⟨a1, a2, a3⟩ | a3
    · rw [a3] at hE; cases hE; exact .inl ⟨rfl, a1, a2, rfl⟩
    · rw [a3] at hE; cases hE; exact .inr rfl
  have P3 := Lib.hid (show P[3]? = some (.slice EA en ec) by rw [hP]; rfl)
  have P13 := Lib.hid (show P[13]? = some (.slice DA dn dc) by rw [hP]; rfl)
  have HP2 : Hid (∀ A1 c1 A2 c2, (P.set 3 (.slice A1 en c1)).set 13 (.slice A2 dn c2) = pc p.h A1 en c1 A2 dn c2) := Lib.hid (fun A1 c1 A2 c2 => by rw [hP]; rfl)
  have CE : Hid (∀ (M : List At) (w : World) (A1 A2 : Option Addr) (c1 c2 : Nat) (PC : List Value), Hid (PC = pc p.h A1 en c1 A2 dn c2) → Reads M A1 (p.en.map v8) → Reads M A2 (p.da.map v8) → St w0 X M w → Calls Try.prog 12 #[.agg PC.toArray, .agg F.toArray] w fun e' w' => ∃ r B c, e' = .returned (.tuple #[.slice B m c, iv ee]) ∧ m ≤ c ∧ St w0 X (.own 1 r B m c (xb.map v8) :: M) w') := Lib.hid (fun M w A1 A2 c1 c2 PC hPC h1 h2 hs => by rw [hPC.out, hF, ← fv_eq]; exact encodeN_st hs p f h1 h2 he hd (by omega) (by omega) hE hm)
  have CD : Hid (ee = 0 → ∀ (M : List At) (w : World) (B : Option Addr) (cc : Nat), m ≤ cc → Reads M B (xb.map v8) → St w0 X M w → Calls Try.prog 22 #[.slice B m cc, .agg F.toArray] w fun r' w' => ∃ r1 QA ec r2 QD dc PC, r' = .returned (.tuple #[.agg PC.toArray, iv 0]) ∧ Hid (PC = pc p.h QA en ec QD dn dc) ∧ St w0 X (.own 1 r1 QA en ec (p.en.map v8) :: .own 1 r2 QD dn dc (p.da.map v8) :: M) w') := Lib.hid (fun h0 M w B cc hcc hr hs => by
    rcases hee with ⟨_, a1, a2, a3⟩ | a1
    · rw [hF, ← fv_eq]
      have hle : m ≤ 70368744177664 := by
        have := size_lt a1 a2
        rw [hm, a3, enc_len p f a1 a2]; omega
      have h := decodeN_st hs xb f hm hr hcc hle (P := p) (e := 0) (by rw [a3]; exact dec_enc a1 a2)
      rw [← he, ← hd] at h
      exact h
    · omega)
  have CS : Hid (∀ (M : List At) (w : World) (A1 A2 : Option Addr) (c1 c2 : Nat) (PC : List Value), Hid (PC = pc p.h A1 en c1 A2 dn c2) → Reads (M ++ L) A1 (p.en.map v8) → Reads (M ++ L) A2 (p.da.map v8) → St w0 X (M ++ L) w → Calls Try.prog 21 #[.agg P.toArray, .agg PC.toArray] w fun e w' => e = .returned (.bool true) ∧ St w0 X (M ++ L) w') := Lib.hid (fun M w A1 A2 c1 c2 PC hPC h1 h2 hs => by
    rw [hPC.out, hP]
    exact rSame_st hs p.h p.h he he hd hd (rE.app M) h1 (rD.app M) h2 (same_self p))
  have HML : Hid (ee = 0 → m ≤ 2000000) := Lib.hid (fun h0 => by
    rcases hee with ⟨_, a1, a2, a3⟩ | a1
    · have := size_lt a1 a2
      rw [hm, a3, enc_len p f a1 a2]; omega
    · omega)
  have HEE : Hid (ee = 0 ∨ ee = 2) := Lib.hid (by rcases hee with ⟨a, _⟩ | a <;> simp [a])
  have HRE := Lib.hid rE
  have HRD := Lib.hid rD
  have HEN := Lib.hid he
  have HDN := Lib.hid hd
  have HM := Lib.hid hm
  have hen1 : en ≤ 100 := hdn.2
  have hdn1 : dn ≤ 3000 := hdn.1
  rw [fv_eq, ← hF, ← hP]
  clear hF hP hb1 he rE hd rD hdn hE hm hee
  go_enter Try.func9, Try.ntmps9
  go_upto_region 4 with (first | ((with_reducible refine Se.isL (o := ⟨some 15, _, _, _, _, _⟩) ?_); (refine Se.toL rfl (Se.ldw (o := ⟨some 15, _, _, _, _, _⟩) hs rfl rfl ((Reads.blk 1 rfl)) ((by rw [PL.out]; kernel_rfl)) (by kernel_rfl) ?_))) | ((with_reducible refine Se.isL (o := ⟨some 18, _, _, _, _, _⟩) ?_); (refine Se.toL rfl (Se.ldw (o := ⟨some 18, _, _, _, _, _⟩) hs rfl rfl ((Reads.blk 1 rfl)) ((by rw [PL.out]; kernel_rfl)) (by kernel_rfl) ?_))) | ((with_reducible refine Se.isL (o := ⟨some 5, _, _, _, _, _⟩) ?_); (refine Se.toL rfl (Se.al (o := ⟨some 5, _, _, _, _, _⟩) hs rfl (HZ.out) ?_); clear hs; rintro w g5 - hs)) | ((with_reducible refine Se.isL (o := ⟨none, _, _, _, _, _⟩) ?_); (refine Se.toL rfl (Se.sow 0 hs rfl rfl rfl rfl (PO.out) ((by rw [PL.out]; kernel_rfl)) ((by rw [PL.out]; rfl)) ?_); clear hs; intro w hs; try simp only [List.cons_append, List.nil_append, List.set_cons_zero] at hs)) | ((first | with_reducible refine Se.ab hs ?_ | with_reducible refine Se.abc hs ?_); clear hs; (first | ((fail_if_success (have _q := g2)); generalize w.heap.size = g2; intro w hs) | (generalize w.heap.size = g3; intro w hs))) | (go_at_call 10; refine Calls.mono (CL.out [_, _] _ hs) ?_; clear hs; rintro e w ⟨rfl, hs⟩))
  replace hs := (hs.nil_own 1 none).nil_own 1 none
  refine Ch.region' 10 (fun wx => Blk wx g2 P 27) (fun | 2 => true | 5 => true | 7 => true | 9 => true | _ => false) (by kernel_rfl) (by decide +kernel) (hs.drew.hold (.blk g2 27 P) (by simp)) ?_
  replace hs := hs.drew
  generalize w.drew = w at hs ⊢
  change Ch.CW _ _ _ _ _ [0, 1, 2, 3, 4, 5, 6, 7, 8, 9] _ _
  iterate 2 ((first | (refine Ch.pure (v := ?_) (by rfl) (by rfl) (by rfl) (fun wx hS => ?_) ?_; rotate_left; (focus (go_simp; (first | done | with_reducible rfl)))) | refine Ch.pure (v := _) (by rfl) (by rfl) (by rfl) (fun wx hS => Se.xl rfl rfl (by rw [hS.cell]; exact P3.out) (by decide +kernel)) ?_); (try simp only [Act.put, List.setIfInBounds_toArray, List.set_cons_zero, List.set_cons_succ]))
  refine Ch.noise (by rfl) (by rfl) (by rfl) (Se.ap 0 hs rfl rfl rfl rfl (HRE.out.app [_, _, _, _, _]) Try.underlying23 u8i3 rfl (by decide) (v8_one _) (by rw [List.length_map, HEN.out, Nat.mul_one]) (by omega) (by omega) ?_)
  clear hs
  rintro w ra A1 c1 hs
  simp only [List.cons_append, List.nil_append, List.set_cons_zero, Nat.zero_add] at hs
  refine ⟨hs.hold (.blk g2 27 P) (by simp), ?_⟩
  (try simp only [Act.put, List.setIfInBounds_toArray, List.set_cons_zero, List.set_cons_succ])
  iterate 2 ((first | (refine Ch.pure (v := ?_) (by rfl) (by rfl) (by rfl) (fun wx hS => ?_) ?_; rotate_left; (focus (go_simp; (first | done | with_reducible rfl)))) | refine Ch.pure (v := _) (by rfl) (by rfl) (by rfl) (fun wx hS => Se.xl rfl rfl (by rw [hS.cell]; exact P13.out) (by decide +kernel)) ?_); (try simp only [Act.put, List.setIfInBounds_toArray, List.set_cons_zero, List.set_cons_succ]))
  refine Ch.noise (by rfl) (by rfl) (by rfl) (Se.ap 1 hs rfl rfl rfl rfl (HRD.out.app [_, _, _, _, _]) Try.underlying23 u8i3 rfl (by decide) (v8_one _) (by rw [List.length_map, HDN.out, Nat.mul_one]) (by omega) (by omega) ?_)
  clear hs
  rintro w rd A2 c2 hs
  simp only [List.cons_append, List.nil_append, List.set_cons_zero, List.set_cons_succ, Nat.zero_add] at hs
  refine ⟨hs.hold (.blk g2 27 P) (by simp), ?_⟩
  (try simp only [Act.put, List.setIfInBounds_toArray, List.set_cons_zero, List.set_cons_succ])
  iterate 1 ((first | (refine Ch.pure (v := ?_) (by rfl) (by rfl) (by rfl) (fun wx hS => ?_) ?_; rotate_left; (focus (go_simp; (first | done | with_reducible rfl))))); (try simp only [Act.put, List.setIfInBounds_toArray, List.set_cons_zero, List.set_cons_succ]))
  refine Ch.noise (by rfl) (by rfl) (by rfl) (Se.so 2 (v := .slice A1 (0 + en) c1) hs rfl rfl rfl rfl rfl (by kernel_rfl) (by rw [PL.out]; decide) ?_)
  clear hs
  intro w hs
  simp only [List.cons_append, List.nil_append, List.set_cons_zero, List.set_cons_succ] at hs
  refine ⟨hs.hold (.blk g2 27 P) (by simp), ?_⟩
  (try simp only [Act.put, List.setIfInBounds_toArray, List.set_cons_zero, List.set_cons_succ])
  iterate 1 ((first | (refine Ch.pure (v := ?_) (by rfl) (by rfl) (by rfl) (fun wx hS => ?_) ?_; rotate_left; (focus (go_simp; (first | done | with_reducible rfl))))); (try simp only [Act.put, List.setIfInBounds_toArray, List.set_cons_zero, List.set_cons_succ]))
  refine Ch.noise (by rfl) (by rfl) (by rfl) (Se.so 2 (v := .slice A2 (0 + dn) c2) hs rfl rfl rfl rfl rfl (by kernel_rfl) (by rw [List.length_set, PL.out]; decide) ?_)
  clear hs
  intro w hs
  simp only [List.cons_append, List.nil_append, List.set_cons_zero, List.set_cons_succ] at hs
  refine ⟨hs.hold (.blk g2 27 P) (by simp), ?_⟩
  (try simp only [Act.put, List.setIfInBounds_toArray, List.set_cons_zero, List.set_cons_succ])
  refine Ch.done ?_
  try simp only [List.drop_succ_cons, List.drop_zero]
  simp only [Nat.zero_add] at hs
  rw [HP2.out] at hs
  obtain ⟨P2, hP2⟩ : ∃ P2, P2 = pc p.h A1 en c1 A2 dn c2 := ⟨_, rfl⟩
  rw [← hP2] at hs
  have HPP := Lib.hid hP2
  have P2L := Lib.hid (show P2.length = 14 by rw [hP2]; rfl)
  clear hP2 HP2 HRE HRD P3 P13
  rcases HEE.out with rfl | rfl
  rotate_left
  · go_wp2_with (first | ((with_reducible refine Se.isL (o := ⟨some 28, _, _, _, _, _⟩) ?_); (refine Se.toL rfl (Se.ldw (o := ⟨some 28, _, _, _, _, _⟩) hs rfl rfl ((Reads.blk 2 rfl)) ((by rw [P2L.out]; kernel_rfl)) (by kernel_rfl) ?_))) | ((with_reducible refine Se.isL (o := ⟨some 29, _, _, _, _, _⟩) ?_); (refine Se.toL rfl (Se.ldw (o := ⟨some 29, _, _, _, _, _⟩) hs rfl rfl ((Reads.blk 3 rfl)) ((by rw [FL.out]; kernel_rfl)) (by kernel_rfl) ?_))) | ((with_reducible refine Se.isL (o := ⟨some 35, _, _, _, _, _⟩) ?_); (refine Se.toL rfl (Se.ldw (o := ⟨some 35, _, _, _, _, _⟩) hs rfl rfl ((Reads.blk 5 rfl)) ((by rw [PL.out]; kernel_rfl)) (by kernel_rfl) ?_))) | ((with_reducible refine Se.isL (o := ⟨some 36, _, _, _, _, _⟩) ?_); (refine Se.toL rfl (Se.ldw (o := ⟨some 36, _, _, _, _, _⟩) hs rfl rfl ((Reads.blk 3 rfl)) ((by rw [P2L.out]; kernel_rfl)) (by kernel_rfl) ?_))) | (go_at_call 12; refine Calls.mono (CE.out _ _ _ _ _ _ _ HPP (Reads.own 0 rfl) (Reads.own 1 rfl) hs) ?_; clear hs; rintro e w ⟨rb, BB, cb, rfl, hcb, hs⟩) | (go_at_call 21; refine Calls.mono (CS.out [_, _, _, _, _, _] _ _ _ _ _ _ HPP (Reads.own 1 rfl) (Reads.own 2 rfl) hs) ?_; clear hs; rintro e w ⟨rfl, hs⟩) | (go_at_call 11; refine Calls.mono (CK.out [_, _, _, _, _, _] _ hs) ?_; clear hs; rintro e w ⟨rfl, hs⟩))
    go_ret
    exact ⟨rfl, hs.drop.drop.drop.drop.drop.drop⟩
  replace CD := Lib.hid (CD.out rfl)
  have hml := HML.out rfl
  clear HML HEE CL
  go_upto_region 8 with (first | ((with_reducible refine Se.isL (o := ⟨some 28, _, _, _, _, _⟩) ?_); (refine Se.toL rfl (Se.ldw (o := ⟨some 28, _, _, _, _, _⟩) hs rfl rfl ((Reads.blk 2 rfl)) ((by rw [P2L.out]; kernel_rfl)) (by kernel_rfl) ?_))) | ((with_reducible refine Se.isL (o := ⟨some 29, _, _, _, _, _⟩) ?_); (refine Se.toL rfl (Se.ldw (o := ⟨some 29, _, _, _, _, _⟩) hs rfl rfl ((Reads.blk 3 rfl)) ((by rw [FL.out]; kernel_rfl)) (by kernel_rfl) ?_))) | (go_at_call 12; refine Calls.mono (CE.out _ _ _ _ _ _ _ HPP (Reads.own 0 rfl) (Reads.own 1 rfl) hs) ?_; clear hs; rintro e w ⟨rb, BB, cb, rfl, hcb, hs⟩))
  replace hs := hs.nil_own 1 none
  clear CE
  go_upto_region 9 with (first | ((with_reducible refine Se.isL (o := ⟨some 42, _, _, _, _, _⟩) ?_); (refine Se.toL rfl (Se.ap (o := ⟨some 42, _, _, _, _, _⟩) 0 hs rfl rfl rfl rfl ((Reads.own 1 rfl)) Try.underlying23 u8i3 rfl (by decide) ((v8_one _)) ((by rw [List.length_map, HM.out, Nat.mul_one])) ((by omega)) ((by omega)) ?_); clear hs; rintro w rk BK ck hs; try simp only [List.cons_append, List.nil_append, List.set_cons_zero] at hs)))
  simp only [Nat.zero_add, List.nil_append] at hs ⊢
  go_upto_region 10 with (first | ((with_reducible refine Se.isL (o := ⟨some 45, _, _, _, _, _⟩) ?_); (refine Se.toL rfl (Se.ldw (o := ⟨some 45, _, _, _, _, _⟩) hs rfl rfl ((Reads.blk 5 rfl)) ((by rw [FL.out]; kernel_rfl)) (by kernel_rfl) ?_))) | ((with_reducible refine Se.isL (o := ⟨some 9, _, _, _, _, _⟩) ?_); (refine Se.toL rfl (Se.al (o := ⟨some 9, _, _, _, _, _⟩) hs rfl (HZ.out) ?_); clear hs; rintro w g9 - hs)) | ((with_reducible refine Se.isL (o := ⟨none, _, _, _, _, _⟩) ?_); (refine Se.toL rfl (Se.sow 0 hs rfl rfl rfl rfl ((by rw [HPC.out]; exact pc_one _ _ _ _ _ _ _)) ((by rw [HPC.out]; kernel_rfl)) ((by rw [HPC.out]; rfl)) ?_); clear hs; intro w hs; try simp only [List.cons_append, List.nil_append, List.set_cons_zero] at hs)) | (go_at_call 22; refine Calls.mono (CD.out _ _ _ _ hcb (Reads.own 1 rfl) hs) ?_; clear hs; rintro e w ⟨r1, QA, ec', r2, QD, dc', PC, rfl, HPC, hs⟩))
  have C3 := Lib.hid (show PC[3]? = some (.slice QA en ec') by rw [HPC.out]; rfl)
  have C13 := Lib.hid (show PC[13]? = some (.slice QD dn dc') by rw [HPC.out]; rfl)
  clear HPC CD
  go_wp2_with fail

  go_loopg [11] en (fun gh s11 wr => ∃ (k : Nat) (es : List (BitVec 8)), gh = en - k ∧ k ≤ en ∧ s11 = .int .i64 (k : Int) ∧ Hid (es.length = en) ∧ St w0 X ([.blk g9 27 PC, .own 1 r1 QA en ec' (es.map v8), .own 1 r2 QD dn dc' (p.da.map v8), .own 1 rk BK m ck (xb.map v8), .own 1 rb BB m cb (xb.map v8), .own 1 ra A1 en c1 (p.en.map v8), .own 1 rd A2 dn c2 (p.da.map v8), .blk g5 27 P2, .blk g3 29 F, .blk g2 27 P] ++ L) wr)
  case atStart => exact ⟨0, p.en, rfl, by omega, rfl, Lib.hid HEN.out.symm, hs⟩
  case round =>
    clear hs
    rename World => w
    obtain ⟨k, es, rfl, hk, rfl, HES, hs⟩ := hrel
    by_cases hlt : k < en
    · have hlt' : (k : Int) < (en : Int) := by omega
      obtain ⟨g, off, rfl, rfl⟩ := hs.own_at 1 rfl (by omega)
      have HV := Lib.hid (show (es.map v8)[k]? = some (.int .u8 (n8 (es.getD k 0#8))) from v8_at es k (by rw [HES.out]; exact hlt))
      have HLL := Lib.hid (show k < (es.map v8).length by rw [List.length_map, HES.out]; exact hlt)
      obtain ⟨y, hy⟩ : ∃ y, y = es.getD k 0#8 := ⟨_, rfl⟩
      rw [← hy] at HV
      clear hy
      go_upto_region 13 with (first | ((with_reducible refine Se.isL (o := ⟨some 51, _, _, _, _, _⟩) ?_); (refine Se.toL rfl (Se.ld (o := ⟨some 51, _, _, _, _, _⟩) hs rfl rfl (Cell.blk 0 rfl C3.out) (by kernel_rfl) ?_))))
      refine Ch.region' 11 (fun wx => Blk wx g9 PC 27) (fun | 7 => true | 10 => true | _ => false) (by kernel_rfl) (by decide +kernel) (hs.drew.hold (.blk g9 27 PC) (by simp)) ?_
      replace hs := hs.drew
      generalize w.drew = w at hs ⊢
      change Ch.CW _ _ _ _ _ [0, 1, 2, 3, 4, 5, 6, 7, 8, 9, 10] _ _
      iterate 7 ((first | (refine Ch.pure (v := ?_) (by rfl) (by rfl) (by rfl) (fun wx hS => ?_) ?_; rotate_left; (focus (go_simp; (first | done | with_reducible rfl)))) | refine Ch.pure (v := _) (by rfl) (by rfl) (by rfl) (fun wx hS => Se.xl rfl rfl (by rw [hS.cell]; exact C3.out) (by decide +kernel)) ?_); (try simp only [Act.put, List.setIfInBounds_toArray, List.set_cons_zero, List.set_cons_succ]))
      refine Ch.noise (by rfl) (by rfl) (by rfl) (Se.ld hs rfl rfl ((Reads.own 1 rfl).cell k HV.out) (by kernel_rfl) ?_)
      refine ⟨hs.hold (.blk g9 27 PC) (by simp), ?_⟩
      (try simp only [Act.put, List.setIfInBounds_toArray, List.set_cons_zero, List.set_cons_succ])
      iterate 2 ((first | (refine Ch.pure (v := ?_) (by rfl) (by rfl) (by rfl) (fun wx hS => ?_) ?_; rotate_left; (focus (go_simp; (first | done | with_reducible rfl))))); (try simp only [Act.put, List.setIfInBounds_toArray, List.set_cons_zero, List.set_cons_succ]))
      refine Ch.noise (by rfl) (by rfl) (by rfl) (Se.soo 1 (v := .int .u8 (n8 (y + 1#8))) hs rfl rfl rfl rfl rfl (by kernel_rfl) HLL.out ?_)
      clear hs
      intro w hs
      simp only [List.cons_append, List.nil_append, List.set_cons_zero, List.set_cons_succ] at hs
      refine ⟨hs.hold (.blk g9 27 PC) (by simp), ?_⟩
      (try simp only [Act.put, List.setIfInBounds_toArray, List.set_cons_zero, List.set_cons_succ])
      refine Ch.done ?_
      try simp only [List.drop_succ_cons, List.drop_zero]
      go_wp2_with fail
      go_roundg (en - (k + 1))
      case measure => omega
      case rel => exact ⟨k + 1, es.set k (y + 1#8), rfl, by omega, by go_num, Lib.hid (by rw [List.length_set]; exact HES.out), by rw [List.map_set]; exact hs⟩
    · have ek : en = k := by omega
      subst ek
      have HES1 := HES
      obtain ⟨es1, hes1⟩ : ∃ es1, es1 = es := ⟨_, rfl⟩
      rw [← hes1] at hs
      clear hes1 HES HES1
      go_wp2_with (first | ((with_reducible refine Se.isL (o := ⟨some 51, _, _, _, _, _⟩) ?_); (refine Se.toL rfl (Se.ld (o := ⟨some 51, _, _, _, _, _⟩) hs rfl rfl (Cell.blk 0 rfl C3.out) (by kernel_rfl) ?_))))

      go_loopg [12] dn (fun gh s12 wr => ∃ (k : Nat) (es : List (BitVec 8)), gh = dn - k ∧ k ≤ dn ∧ s12 = .int .i64 (k : Int) ∧ Hid (es.length = dn) ∧ St w0 X ([.blk g9 27 PC, .own 1 r1 QA en ec' (es1.map v8), .own 1 r2 QD dn dc' (es.map v8), .own 1 rk BK m ck (xb.map v8), .own 1 rb BB m cb (xb.map v8), .own 1 ra A1 en c1 (p.en.map v8), .own 1 rd A2 dn c2 (p.da.map v8), .blk g5 27 P2, .blk g3 29 F, .blk g2 27 P] ++ L) wr)
      case atStart => exact ⟨0, p.da, rfl, by omega, rfl, Lib.hid HDN.out.symm, hs⟩
      case round =>
        clear hs
        rename World => w
        obtain ⟨k, es, rfl, hk, rfl, HES, hs⟩ := hrel
        by_cases hlt : k < dn
        · have hlt' : (k : Int) < (dn : Int) := by omega
          obtain ⟨g, off, rfl, rfl⟩ := hs.own_at 2 rfl (by omega)
          have HV := Lib.hid (show (es.map v8)[k]? = some (.int .u8 (n8 (es.getD k 0#8))) from v8_at es k (by rw [HES.out]; exact hlt))
          have HLL := Lib.hid (show k < (es.map v8).length by rw [List.length_map, HES.out]; exact hlt)
          obtain ⟨y, hy⟩ : ∃ y, y = es.getD k 0#8 := ⟨_, rfl⟩
          rw [← hy] at HV
          clear hy
          go_upto_region 17 with (first | ((with_reducible refine Se.isL (o := ⟨some 68, _, _, _, _, _⟩) ?_); (refine Se.toL rfl (Se.ld (o := ⟨some 68, _, _, _, _, _⟩) hs rfl rfl (Cell.blk 0 rfl C13.out) (by kernel_rfl) ?_))))
          refine Ch.region' 11 (fun wx => Blk wx g9 PC 27) (fun | 7 => true | 10 => true | _ => false) (by kernel_rfl) (by decide +kernel) (hs.drew.hold (.blk g9 27 PC) (by simp)) ?_
          replace hs := hs.drew
          generalize w.drew = w at hs ⊢
          change Ch.CW _ _ _ _ _ [0, 1, 2, 3, 4, 5, 6, 7, 8, 9, 10] _ _
          iterate 7 ((first | (refine Ch.pure (v := ?_) (by rfl) (by rfl) (by rfl) (fun wx hS => ?_) ?_; rotate_left; (focus (go_simp; (first | done | with_reducible rfl)))) | refine Ch.pure (v := _) (by rfl) (by rfl) (by rfl) (fun wx hS => Se.xl rfl rfl (by rw [hS.cell]; exact C13.out) (by decide +kernel)) ?_); (try simp only [Act.put, List.setIfInBounds_toArray, List.set_cons_zero, List.set_cons_succ]))
          refine Ch.noise (by rfl) (by rfl) (by rfl) (Se.ld hs rfl rfl ((Reads.own 2 rfl).cell k HV.out) (by kernel_rfl) ?_)
          refine ⟨hs.hold (.blk g9 27 PC) (by simp), ?_⟩
          (try simp only [Act.put, List.setIfInBounds_toArray, List.set_cons_zero, List.set_cons_succ])
          iterate 2 ((first | (refine Ch.pure (v := ?_) (by rfl) (by rfl) (by rfl) (fun wx hS => ?_) ?_; rotate_left; (focus (go_simp; (first | done | with_reducible rfl))))); (try simp only [Act.put, List.setIfInBounds_toArray, List.set_cons_zero, List.set_cons_succ]))
          refine Ch.noise (by rfl) (by rfl) (by rfl) (Se.soo 2 (v := .int .u8 (n8 (y + 1#8))) hs rfl rfl rfl rfl rfl (by kernel_rfl) HLL.out ?_)
          clear hs
          intro w hs
          simp only [List.cons_append, List.nil_append, List.set_cons_zero, List.set_cons_succ] at hs
          refine ⟨hs.hold (.blk g9 27 PC) (by simp), ?_⟩
          (try simp only [Act.put, List.setIfInBounds_toArray, List.set_cons_zero, List.set_cons_succ])
          refine Ch.done ?_
          try simp only [List.drop_succ_cons, List.drop_zero]
          go_wp2_with fail
          go_roundg (dn - (k + 1))
          case measure => omega
          case rel => exact ⟨k + 1, es.set k (y + 1#8), rfl, by omega, by go_num, Lib.hid (by rw [List.length_set]; exact HES.out), by rw [List.map_set]; exact hs⟩
        · have ek : dn = k := by omega
          subst ek
          have HES2 := HES
          obtain ⟨es2, hes2⟩ : ∃ es2, es2 = es := ⟨_, rfl⟩
          rw [← hes2] at hs
          clear hes2 HES HES2
          go_upto_region 18 with (first | ((with_reducible refine Se.isL (o := ⟨some 68, _, _, _, _, _⟩) ?_); (refine Se.toL rfl (Se.ld (o := ⟨some 68, _, _, _, _, _⟩) hs rfl rfl (Cell.blk 0 rfl C13.out) (by kernel_rfl) ?_))))
          have c1 : (convert 23 9 (.slice BK m ck)).run Try.prog w = .ok (.string (strB xb)) w := run_str w Try.underlying23 Try.underlying5 Try.underlying9 HM.out ((Reads.own 3 rfl) w hs.hold)
          have c2 : (convert 23 9 (.slice BB m cb)).run Try.prog w = .ok (.string (strB xb)) w := run_str w Try.underlying23 Try.underlying5 Try.underlying9 HM.out ((Reads.own 4 rfl) w hs.hold)
          go_upto_region 19 with (fail)
          clear c1 c2
          go_wp2_with fail

          go_loopg [14] m (fun gh s14 wr => ∃ (k : Nat) (es : List (BitVec 8)), gh = m - k ∧ k ≤ m ∧ s14 = .int .i64 (k : Int) ∧ Hid (es.length = m) ∧ St w0 X ([.blk g9 27 PC, .own 1 r1 QA en ec' (es1.map v8), .own 1 r2 QD dn dc' (es2.map v8), .own 1 rk BK m ck (xb.map v8), .own 1 rb BB m cb (es.map v8), .own 1 ra A1 en c1 (p.en.map v8), .own 1 rd A2 dn c2 (p.da.map v8), .blk g5 27 P2, .blk g3 29 F, .blk g2 27 P] ++ L) wr)
          case atStart => exact ⟨0, xb, rfl, by omega, rfl, Lib.hid HM.out.symm, hs⟩
          case round =>
            clear hs
            rename World => w
            obtain ⟨k, es, rfl, hk, rfl, HES, hs⟩ := hrel
            by_cases hlt : k < m
            · have hlt' : (k : Int) < (m : Int) := by omega
              obtain ⟨g, off, rfl, rfl⟩ := hs.own_at 4 rfl (by omega)
              have HV := Lib.hid (show (es.map v8)[k]? = some (.int .u8 (n8 (es.getD k 0#8))) from v8_at es k (by rw [HES.out]; exact hlt))
              have HLL := Lib.hid (show k < (es.map v8).length by rw [List.length_map, HES.out]; exact hlt)
              obtain ⟨y, hy⟩ : ∃ y, y = es.getD k 0#8 := ⟨_, rfl⟩
              rw [← hy] at HV
              clear hy
              go_wp2_with (first | ((with_reducible refine Se.isL (o := ⟨some 99, _, _, _, _, _⟩) ?_); (refine Se.toL rfl (Se.ld (o := ⟨some 99, _, _, _, _, _⟩) hs rfl rfl ((Reads.own 4 rfl).cell k HV.out) (by kernel_rfl) ?_))) | ((with_reducible refine Se.isL (o := ⟨none, _, _, _, _, _⟩) ?_); ((first | refine Se.toL rfl (Se.soo 4 (v := .int _ _) hs rfl rfl rfl rfl rfl (by kernel_rfl) (HLL.out) ?_) | refine Se.toL rfl (Se.soo 4 (v := .bool _) hs rfl rfl rfl rfl rfl (by kernel_rfl) (HLL.out) ?_) | refine Se.toL rfl (Se.soo 4 (v := .slice _ _ _) hs rfl rfl rfl rfl rfl (by kernel_rfl) (HLL.out) ?_) | refine Se.toL rfl (Se.soo 4 (v := .pointer _) hs rfl rfl rfl rfl rfl (by kernel_rfl) (HLL.out) ?_) | refine Se.toL rfl (Se.soo 4 (v := .string _) hs rfl rfl rfl rfl rfl (by kernel_rfl) (HLL.out) ?_) | refine Se.toL rfl (Se.soo 4 (v := .map _) hs rfl rfl rfl rfl rfl (by kernel_rfl) (HLL.out) ?_) | refine Se.toL rfl (Se.soo 4 (v := .func _ _ _) hs rfl rfl rfl rfl rfl (by kernel_rfl) (HLL.out) ?_) | refine Se.toL rfl (Se.soo 4 (v := .nilFunc) hs rfl rfl rfl rfl rfl (by kernel_rfl) (HLL.out) ?_)); clear hs; intro w hs; try simp only [List.cons_append, List.nil_append, List.set_cons_zero, List.set_cons_succ] at hs)))
              go_roundg (m - (k + 1))
              case measure => omega
              case rel => exact ⟨k + 1, es.set k (y + 1#8), rfl, by omega, by go_num, Lib.hid (by rw [List.length_set]; exact HES.out), by rw [List.map_set]; exact hs⟩
            · have ek : m = k := by omega
              subst ek
              go_wp2_with (first | ((with_reducible refine Se.isL (o := ⟨some 108, _, _, _, _, _⟩) ?_); (refine Se.toL rfl (Se.ldw (o := ⟨some 108, _, _, _, _, _⟩) hs rfl rfl ((Reads.blk 9 rfl)) ((by rw [PL.out]; kernel_rfl)) (by kernel_rfl) ?_))) | ((with_reducible refine Se.isL (o := ⟨some 109, _, _, _, _, _⟩) ?_); (refine Se.toL rfl (Se.ldw (o := ⟨some 109, _, _, _, _, _⟩) hs rfl rfl ((Reads.blk 7 rfl)) ((by rw [P2L.out]; kernel_rfl)) (by kernel_rfl) ?_))) | (go_at_call 21; refine Calls.mono (CS.out [_, _, _, _, _, _, _, _, _, _] _ _ _ _ _ _ HPP (Reads.own 5 rfl) (Reads.own 6 rfl) hs) ?_; clear hs; rintro e w ⟨rfl, hs⟩) | (go_at_call 11; refine Calls.mono (CK.out [_, _, _, _, _, _, _, _, _, _] _ hs) ?_; clear hs; rintro e w ⟨rfl, hs⟩))
              go_ret
              exact ⟨rfl, hs.drop.drop.drop.drop.drop.drop.drop.drop.drop.drop⟩
theorem own_any (p : PDU) (f : Fm) {EA DA : Option Addr} {en ec dn dc : Nat} (w0 : World) (he : en = p.en.length) (rE : Rd w0 EA (p.en.map v8)) (hd : dn = p.da.length) (rD : Rd w0 DA (p.da.map v8)) :
    Calls Try.prog 9 #[.agg (pc p.h EA en ec DA dn dc).toArray, fv f] w0 fun e w' => e = .returned (.bool true) ∧ Below w0.heap.size w0 w' := by
  have hs : St w0 [] [.rd EA (p.en.map v8), .rd DA (p.da.map v8)] w0 := St.start w0 (by
    intro a ha
    simp only [List.mem_cons, List.not_mem_nil, or_false] at ha
    rcases ha with rfl | rfl
    · exact rE
    · exact rD) (by simp [Se.ownedL, Se.At.owned])
  exact (own_st hs p f he (Reads.rd 0 rfl) hd (Reads.rd 1 rfl)).mono fun e w' h => ⟨h.1, h.2.below⟩
end Pd
end Go.Proofs.Ytgpbmohfgjmpkaa

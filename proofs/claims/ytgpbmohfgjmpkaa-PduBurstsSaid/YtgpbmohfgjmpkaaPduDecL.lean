/- Layer 35: the law PduDecodes, the walk. No condition. -/
import Derived.Test.YtgpbmohfgjmpkaaPduKnown
import Derived.Test.YtgpbmohfgjmpkaaPduDecD
import Derived.Test.YtgpbmohfgjmpkaaPduRDec
set_option linter.unusedSimpArgs false
set_option linter.unusedVariables false
namespace Go.Proofs.Ytgpbmohfgjmpkaa
open Go Go.RowKit
namespace Pd
open Se (St At Reads Cell)
open Li (v8 v8_one Rd Blk Fr)
open Bv (n8 n16 n32 n64)
variable {w0 w : World} {X : List Nat} {L : List At}
attribute [local irreducible] Calls
theorem same_self (p : PDU) : (p.en == p.en && p.da == p.da && eqH p.h p.h) = true := by
  rw [eqH_iff]; simp
/-- Decode, its result named. -/
theorem decodeN_st (hs : St w0 X L w) (bs : List (BitVec 8)) (f : Fm) {S : Option Addr} {n c : Nat} (hn : n = bs.length) (hS : Reads L S (bs.map v8)) (hc : n ≤ c) (hle : n ≤ 70368744177664) {P : PDU} {e : Nat} (hd : dec bs f = (P, e)) :
    Calls Try.prog 22 #[.slice S n c, fv f] w fun r w' => ∃ r1 EA ec r2 DA dc PC, r = .returned (.tuple #[.agg PC.toArray, iv e]) ∧ Hid (PC = pc P.h EA P.en.length ec DA P.da.length dc) ∧ St w0 X (.own 1 r1 EA P.en.length ec (P.en.map v8) :: .own 1 r2 DA P.da.length dc (P.da.map v8) :: L) w' :=
  (decodeD_st hs bs f hn hS hc hle hd).mono (by
    rintro r w' ⟨r1, EA, ec, r2, DA, dc, h1, h2⟩
    exact ⟨r1, EA, ec, r2, DA, dc, _, h1, Lib.hid rfl, h2⟩)
theorem rDecodeN_st (hs : St w0 X L w) (bs : List (BitVec 8)) (f : Fm) {S : Option Addr} {n c : Nat} (hn : n = bs.length) (hS : Reads L S (bs.map v8)) (hc : n ≤ c) (hle : n ≤ 70368744177664) {P : PDU} {e : Nat} (hd : dec bs f = (P, e)) :
    Calls Try.prog 23 #[.slice S n c, fv f] w fun r w' => ∃ EA ec DA dc PC, r = .returned (.tuple #[.agg PC.toArray, iv e]) ∧ Hid (PC = pc P.h EA P.en.length ec DA P.da.length dc) ∧ Hid (Reads L EA (P.en.map v8)) ∧ Hid (Reads L DA (P.da.map v8)) ∧ St w0 X L w' :=
  (rDecode_st hs bs f hn hS hc hle hd).mono (by
    rintro r w' ⟨EA, en, ec, DA, dn, dc, h1, h2, h3, h4, h5, h6⟩
    subst h2 h4
    exact ⟨EA, ec, DA, dc, _, h1, Lib.hid rfl, Lib.hid h3, Lib.hid h5, h6⟩)
set_option maxRecDepth 100000 in
set_option maxHeartbeats 4000000 in
theorem decodes_st (hs : St w0 X L w) (bs : List (BitVec 8)) (f : Fm) {S : Option Addr} {n c : Nat} (hn : n = bs.length) (hS : Reads L S (bs.map v8)) (hc : n ≤ c) :
    Calls Try.prog 6 #[.slice S n c, fv f] w fun e' w' => e' = .returned (.bool true) ∧ St w0 X L w' := by
  by_cases h3 : 3000 < n
  · obtain ⟨F, hF⟩ : ∃ F, F = fl f := ⟨_, rfl⟩
    have CK : Hid (∀ (L' : List At) (w : World), St w0 X (L' ++ L) w → Calls Try.prog 11 #[] w fun e w' => e = .returned (.bool true) ∧ St w0 X (L' ++ L) w') := Lib.hid (fun L' w hs => known_st hs)
    rw [fv_eq, ← hF]
    have h3' : decide ((3000 : Int) < (n : Int)) = true := by simp; omega
    clear h3 hF hn hS hc
    go_enter Try.func6, Try.ntmps6
    go_wp2_with (first | ((first | with_reducible refine Se.ab hs ?_ | with_reducible refine Se.abc hs ?_); clear hs; (first | (generalize w.heap.size = g3; intro w hs))) | (go_at_call 11; refine Calls.mono (CK.out [_] _ hs) ?_; clear hs; rintro e w ⟨rfl, hs⟩))
    go_ret
    exact ⟨rfl, hs.drop⟩
  have hle : n ≤ 70368744177664 := by omega
  obtain ⟨⟨P, e⟩, hd⟩ : ∃ x, dec bs f = x := ⟨_, rfl⟩
  obtain ⟨F, hF⟩ : ∃ F, F = fl f := ⟨_, rfl⟩
  have FL := Lib.hid (show F.length = 3 by rw [hF]; rfl)
  have HZ := Lib.hid zPdu3
  have CD : Hid (∀ (L' : List At) (w : World), St w0 X (L' ++ L) w → Calls Try.prog 22 #[.slice S n c, .agg F.toArray] w fun r w' => ∃ r1 EA ec r2 DA dc PC, r = .returned (.tuple #[.agg PC.toArray, iv e]) ∧ Hid (PC = pc P.h EA P.en.length ec DA P.da.length dc) ∧ St w0 X (.own 1 r1 EA P.en.length ec (P.en.map v8) :: .own 1 r2 DA P.da.length dc (P.da.map v8) :: (L' ++ L)) w') := Lib.hid (fun L' w hs => by rw [hF, ← fv_eq]; exact decodeN_st hs bs f hn (hS.app L') hc hle hd)
  have CR : Hid (∀ (L' : List At) (w : World), St w0 X (L' ++ L) w → Calls Try.prog 23 #[.slice S n c, .agg F.toArray] w fun r w' => ∃ EA ec DA dc PC, r = .returned (.tuple #[.agg PC.toArray, iv e]) ∧ Hid (PC = pc P.h EA P.en.length ec DA P.da.length dc) ∧ Hid (Reads (L' ++ L) EA (P.en.map v8)) ∧ Hid (Reads (L' ++ L) DA (P.da.map v8)) ∧ St w0 X (L' ++ L) w') := Lib.hid (fun L' w hs => by rw [hF, ← fv_eq]; exact rDecodeN_st hs bs f hn (hS.app L') hc hle hd)
  have CK : Hid (∀ (L' : List At) (w : World), St w0 X (L' ++ L) w → Calls Try.prog 11 #[] w fun e w' => e = .returned (.bool true) ∧ St w0 X (L' ++ L) w') := Lib.hid (fun L' w hs => known_st hs)
  rw [fv_eq, ← hF]
  have h3' : decide ((3000 : Int) < (n : Int)) = false := by simp; omega
  clear h3 hd hF hn hS hc hle
  go_enter Try.func6, Try.ntmps6
  go_upto_region 3 with (first | ((first | with_reducible refine Se.ab hs ?_ | with_reducible refine Se.abc hs ?_); clear hs; (first | (generalize w.heap.size = g3; intro w hs))))
  go_cut [5, 6] (fun s5 s6 wx => ∃ g5 r1 EA ec r2 DA dc PC, s5 = .pointer (some ⟨g5, 0, none⟩) ∧ s6 = iv e ∧ Hid (PC = pc P.h EA P.en.length ec DA P.da.length dc) ∧ St w0 X ([.blk g5 27 PC, .own 1 r1 EA P.en.length ec (P.en.map v8), .own 1 r2 DA P.da.length dc (P.da.map v8), .blk g3 29 F] ++ L) wx)
  case first =>
    go_wp2_with (first | ((with_reducible refine Se.isL (o := ⟨some 15, _, _, _, _, _⟩) ?_); (refine Se.toL rfl (Se.ldw (o := ⟨some 15, _, _, _, _, _⟩) hs rfl rfl ((Reads.blk 0 rfl)) ((by rw [FL.out]; kernel_rfl)) (by kernel_rfl) ?_))) | ((with_reducible refine Se.isL (o := ⟨some 5, _, _, _, _, _⟩) ?_); (refine Se.toL rfl (Se.al (o := ⟨some 5, _, _, _, _, _⟩) hs rfl (HZ.out) ?_); clear hs; rintro w g5 - hs)) | ((with_reducible refine Se.isL (o := ⟨none, _, _, _, _, _⟩) ?_); (refine Se.toL rfl (Se.sow 0 hs rfl rfl rfl rfl ((by rw [HPC.out]; exact pc_one _ _ _ _ _ _ _)) ((by rw [HPC.out]; kernel_rfl)) ((by rw [HPC.out]; rfl)) ?_); clear hs; intro w hs; try simp only [List.cons_append, List.nil_append, List.set_cons_zero] at hs)) | (go_at_call 22; refine Calls.mono (CD.out [_] _ hs) ?_; clear hs; rintro e w ⟨r1, EA, ec, r2, DA, dc, PC, rfl, HPC, hs⟩))
    go_meet
    exact ⟨g5, r1, EA, ec, r2, DA, dc, PC, rfl, rfl, HPC, hs⟩
  case rest =>
  clear hs
  obtain ⟨g5, r1, EA, ec, r2, DA, dc, PC, rfl, rfl, HPC, hs⟩ := hcut
  rename World => w
  have PCL := Lib.hid (show PC.length = 14 by rw [HPC.out]; rfl)
  go_upto_region 4 with (fail)
  go_cut [7, 8] (fun s7 s8 wx => ∃ g7 EB eb DB db QC, s7 = .pointer (some ⟨g7, 0, none⟩) ∧ s8 = iv e ∧ Hid (QC = pc P.h EB P.en.length eb DB P.da.length db) ∧ Hid (Reads ([.blk g5 27 PC, .own 1 r1 EA P.en.length ec (P.en.map v8), .own 1 r2 DA P.da.length dc (P.da.map v8), .blk g3 29 F] ++ L) EB (P.en.map v8)) ∧ Hid (Reads ([.blk g5 27 PC, .own 1 r1 EA P.en.length ec (P.en.map v8), .own 1 r2 DA P.da.length dc (P.da.map v8), .blk g3 29 F] ++ L) DB (P.da.map v8)) ∧ St w0 X ([.blk g7 27 QC, .blk g5 27 PC, .own 1 r1 EA P.en.length ec (P.en.map v8), .own 1 r2 DA P.da.length dc (P.da.map v8), .blk g3 29 F] ++ L) wx)
  case first =>
    go_wp2_with (first | ((with_reducible refine Se.isL (o := ⟨some 21, _, _, _, _, _⟩) ?_); (refine Se.toL rfl (Se.ldw (o := ⟨some 21, _, _, _, _, _⟩) hs rfl rfl ((Reads.blk 3 rfl)) ((by rw [FL.out]; kernel_rfl)) (by kernel_rfl) ?_))) | ((with_reducible refine Se.isL (o := ⟨some 7, _, _, _, _, _⟩) ?_); (refine Se.toL rfl (Se.al (o := ⟨some 7, _, _, _, _, _⟩) hs rfl (HZ.out) ?_); clear hs; rintro w g7 - hs)) | ((with_reducible refine Se.isL (o := ⟨none, _, _, _, _, _⟩) ?_); (refine Se.toL rfl (Se.sow 0 hs rfl rfl rfl rfl ((by rw [HQC.out]; exact pc_one _ _ _ _ _ _ _)) ((by rw [HQC.out]; kernel_rfl)) ((by rw [HQC.out]; rfl)) ?_); clear hs; intro w hs; try simp only [List.cons_append, List.nil_append, List.set_cons_zero] at hs)) | (go_at_call 23; refine Calls.mono (CR.out [_, _, _, _] _ hs) ?_; clear hs; rintro e w ⟨EB, eb, DB, db, QC, rfl, HQC, RB, RD, hs⟩))
    go_meet
    exact ⟨g7, EB, eb, DB, db, QC, rfl, rfl, HQC, RB, RD, hs⟩
  case rest =>
  clear hs CD CR
  obtain ⟨g7, EB, eb, DB, db, QC, rfl, rfl, HQC, RB, RD, hs⟩ := hcut
  rename World => w
  have QCL := Lib.hid (show QC.length = 14 by rw [HQC.out]; rfl)
  have CS : Hid (∀ (w : World), St w0 X ([.blk g7 27 QC, .blk g5 27 PC, .own 1 r1 EA P.en.length ec (P.en.map v8), .own 1 r2 DA P.da.length dc (P.da.map v8), .blk g3 29 F] ++ L) w → Calls Try.prog 21 #[.agg PC.toArray, .agg QC.toArray] w fun e w' => e = .returned (.bool true) ∧ St w0 X ([.blk g7 27 QC, .blk g5 27 PC, .own 1 r1 EA P.en.length ec (P.en.map v8), .own 1 r2 DA P.da.length dc (P.da.map v8), .blk g3 29 F] ++ L) w') := Lib.hid (fun w hs => by
    have h := rSame_st hs P.h P.h (EA := EA) (DA := DA) (EB := EB) (DB := DB) (ec := ec) (dc := dc) (ed := eb) (dd := db) rfl rfl rfl rfl (Reads.own 2 rfl) (RB.out.cons _) (Reads.own 3 rfl) (RD.out.cons _) (same_self P)
    rw [← HPC.out, ← HQC.out] at h
    exact h)
  have ee : ((e : Int) == (e : Int)) = true := by simp
  go_wp2_with (first | ((with_reducible refine Se.isL (o := ⟨some 29, _, _, _, _, _⟩) ?_); (refine Se.toL rfl (Se.ldw (o := ⟨some 29, _, _, _, _, _⟩) hs rfl rfl ((Reads.blk 1 rfl)) ((by rw [PCL.out]; kernel_rfl)) (by kernel_rfl) ?_))) | ((with_reducible refine Se.isL (o := ⟨some 30, _, _, _, _, _⟩) ?_); (refine Se.toL rfl (Se.ldw (o := ⟨some 30, _, _, _, _, _⟩) hs rfl rfl ((Reads.blk 0 rfl)) ((by rw [QCL.out]; kernel_rfl)) (by kernel_rfl) ?_))) | (go_at_call 21; refine Calls.mono (CS.out _ hs) ?_; clear hs; rintro e w ⟨rfl, hs⟩) | (go_at_call 11; refine Calls.mono (CK.out [_, _, _, _, _] _ hs) ?_; clear hs; rintro e w ⟨rfl, hs⟩))
  go_ret
  exact ⟨rfl, hs.drop.drop.drop.drop.drop⟩
theorem decodes_any (bs : List (BitVec 8)) (f : Fm) {S : Option Addr} {n c : Nat} (w0 : World) (hn : n = bs.length) (hS : Rd w0 S (bs.map v8)) (hc : n ≤ c) :
    Calls Try.prog 6 #[.slice S n c, fv f] w0 fun e w' => e = .returned (.bool true) ∧ Below w0.heap.size w0 w' :=
  (decodes_st (L := [.rd S (bs.map v8)]) (rd1 hS) bs f hn (Reads.rd 0 rfl) hc).mono fun e w' h => ⟨h.1, h.2.below⟩
end Pd
end Go.Proofs.Ytgpbmohfgjmpkaa

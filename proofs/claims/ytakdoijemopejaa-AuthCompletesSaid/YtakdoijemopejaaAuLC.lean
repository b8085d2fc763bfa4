/- Layer 38's law AuthCompletes, the walk. No condition but Go's own limits. -/
import Derived.Test.YtakdoijemopejaaAuNew
set_option linter.unusedSimpArgs false
set_option linter.unusedVariables false
namespace Go.Proofs.Ytakdoijemopejaa
open Go Go.RowKit
namespace Au
open Se (St At Reads Cell)
open Li (v8 v8_one Rd Blk Fr)
open Bv (n8 n16 n32 n64)
variable {w0 w : World} {X : List Nat} {L M : List At}
attribute [local irreducible] Calls
set_option maxRecDepth 100000 in
set_option maxHeartbeats 4000000 in
theorem completes_st (hs : St w0 X L w) (p : Pn) (A : Option Addr) (c : Nat) (hr : Reads L A (p.sec.map v8)) (first second : Bs) (h1 : first.length = 32) (h2 : second.length = 32) (seq : BitVec 32) (q : BitVec 16) (both : Bool) :
  Calls Try.prog 3 #[.agg (pcl p A c).toArray, .agg (first.map v8).toArray, .agg (second.map v8).toArray, .int .u32 (n32 seq), .int .u16 (n16 q), .bool both] w fun e w' => e = .returned (.bool true) ∧ St w0 X L w' := by
 obtain ⟨PL, hPL⟩ : ∃ PL, PL = pcl p A c := ⟨_, rfl⟩
 obtain ⟨F1, hF1⟩ : ∃ F1, F1 = first.map v8 := ⟨_, rfl⟩
 obtain ⟨F2, hF2⟩ : ∃ F2, F2 = second.map v8 := ⟨_, rfl⟩
 obtain ⟨m, hm⟩ : ∃ m, m = p.sec.length := ⟨_, rfl⟩
 have P0 := Lib.hid (show PL[0]? = some (.slice A m c) by rw [hPL, hm]; rfl)
 have P1 := Lib.hid (show PL[1]? = some (.string p.hs) by rw [hPL]; rfl)
 have P2 := Lib.hid (show PL[2]? = some (.string p.sb) by rw [hPL]; rfl)
 have PLL := Lib.hid (show PL.length = 3 by rw [hPL]; rfl)
 have L1 := Lib.hid (show F1.length = 32 by rw [hF1]; simpa using h1)
 have L2 := Lib.hid (show F2.length = 32 by rw [hF2]; simpa using h2)
 have HF1 := Lib.hid hF1
 have HF2 := Lib.hid hF2
 have hr0 := Lib.hid hr
 have H1 := Lib.hid h1
 have H2 := Lib.hid h2
 obtain ⟨sh, hsh⟩ : ∃ sh, sh = short p := ⟨_, rfl⟩
 have CS : Hid (∀ (L' : List At) (w : World), St w0 X L' w → Calls Try.prog 7 #[.agg PL.toArray] w fun e w' => e = .returned (.bool sh) ∧ St w0 X L' w') := Lib.hid (fun L' w hs => by rw [hPL, hsh]; exact short_st hs p A c)
 obtain ⟨va, hva⟩ : ∃ va, va = valid p.py := ⟨_, rfl⟩
 have HM := Lib.hid hm
 have HSH := Lib.hid hsh
 have HVA := Lib.hid hva
 rw [← hPL, ← hF1, ← hF2]
 clear hPL hF1 hF2 hm hr h1 h2 hsh hva
 cases sh with
 | false =>
  go_enter Try.func3, Try.ntmps3
  go_wp2_with (first | ((with_reducible refine Se.isL (o := ⟨some 32, _, _, _, _, _⟩) ?_); (refine Se.toL rfl (Se.ldw (o := ⟨some 32, _, _, _, _, _⟩) hs rfl rfl ((Reads.blk 2 rfl)) ((by rw [PLL.out]; kernel_rfl)) (by kernel_rfl) ?_))) | ((first | with_reducible refine Se.ab hs ?_ | with_reducible refine Se.abc hs ?_); clear hs; (first | ((fail_if_success (have _q := g6)); generalize w.heap.size = g6; intro w hs) | ((fail_if_success (have _q := g7)); generalize w.heap.size = g7; intro w hs) | (generalize w.heap.size = g8; intro w hs))) | (go_at_call 7; refine Calls.mono (CS.out _ _ hs) ?_; clear hs; rintro e w ⟨rfl, hs⟩) | (go_at_call 8; refine Calls.mono (known_st hs) ?_; clear hs; rintro e w ⟨rfl, hs⟩))
  go_ret
  exact ⟨rfl, hs.drop.drop.drop⟩
 | true =>
 by_cases s0 : seq = 0#32
 ·have d0 : (n32 seq == 0) = true := by rw [s0]; rfl
  clear s0
  go_enter Try.func3, Try.ntmps3
  go_wp2_with (first | ((with_reducible refine Se.isL (o := ⟨some 32, _, _, _, _, _⟩) ?_); (refine Se.toL rfl (Se.ldw (o := ⟨some 32, _, _, _, _, _⟩) hs rfl rfl ((Reads.blk 2 rfl)) ((by rw [PLL.out]; kernel_rfl)) (by kernel_rfl) ?_))) | ((first | with_reducible refine Se.ab hs ?_ | with_reducible refine Se.abc hs ?_); clear hs; (first | ((fail_if_success (have _q := g6)); generalize w.heap.size = g6; intro w hs) | ((fail_if_success (have _q := g7)); generalize w.heap.size = g7; intro w hs) | (generalize w.heap.size = g8; intro w hs))) | (go_at_call 7; refine Calls.mono (CS.out _ _ hs) ?_; clear hs; rintro e w ⟨rfl, hs⟩) | (go_at_call 8; refine Calls.mono (known_st hs) ?_; clear hs; rintro e w ⟨rfl, hs⟩))
  go_ret
  exact ⟨rfl, hs.drop.drop.drop⟩
 have d0 : (n32 seq == 0) = false := by rw [show (0 : Int) = n32 0#32 from rfl, Bv.n32_beq]; simpa using s0
 by_cases s1 : seq = 4294967295#32
 ·have d1 : (n32 seq == 4294967295) = true := by rw [s1]; rfl
  clear s0 s1
  go_enter Try.func3, Try.ntmps3
  go_wp2_with (first | ((with_reducible refine Se.isL (o := ⟨some 32, _, _, _, _, _⟩) ?_); (refine Se.toL rfl (Se.ldw (o := ⟨some 32, _, _, _, _, _⟩) hs rfl rfl ((Reads.blk 2 rfl)) ((by rw [PLL.out]; kernel_rfl)) (by kernel_rfl) ?_))) | ((first | with_reducible refine Se.ab hs ?_ | with_reducible refine Se.abc hs ?_); clear hs; (first | ((fail_if_success (have _q := g6)); generalize w.heap.size = g6; intro w hs) | ((fail_if_success (have _q := g7)); generalize w.heap.size = g7; intro w hs) | (generalize w.heap.size = g8; intro w hs))) | (go_at_call 7; refine Calls.mono (CS.out _ _ hs) ?_; clear hs; rintro e w ⟨rfl, hs⟩) | (go_at_call 8; refine Calls.mono (known_st hs) ?_; clear hs; rintro e w ⟨rfl, hs⟩))
  go_ret
  exact ⟨rfl, hs.drop.drop.drop⟩
 have d1 : (n32 seq == 4294967295) = false := by rw [show (4294967295 : Int) = n32 4294967295#32 from rfl, Bv.n32_beq]; simpa using s1
 have HS0 := Lib.hid (show 0 < seq.toNat by
  rcases Nat.eq_zero_or_pos seq.toNat with h | h
  ·exact absurd (BitVec.eq_of_toNat_eq h) s0
  ·exact h)
 have HS1 := Lib.hid (show (seq + 1#32).toNat = seq.toNat + 1 by
  have h := seq.isLt
  have h2 : seq.toNat ≠ 4294967295 := fun e => s1 (BitVec.eq_of_toNat_eq e)
  rw [BitVec.toNat_add]; simp; omega)
 have hw : IntKind.u32.wrap (n32 seq + 1) = n32 (seq + 1#32) := by
  rw [Bv.wrap_n32_of, BitVec.ofInt_add, Bv.of_n32]; try rfl
 clear s0 s1
 cases va with
 | false =>
  have CV : Hid (∀ (L' : List At) (w : World), Reads L' A (p.sec.map v8) → St w0 X L' w → Calls Try.prog 9 #[.slice A m c, .string p.hs, .string p.sb] w fun e w' => e = .returned (.tuple #[.pointer none, .int .i64 2]) ∧ St w0 X L' w') := Lib.hid (fun L' w hr hs => by rw [HM.out]; exact verNewF hs p A c hr HSH.out.symm HVA.out.symm)
  have CP : Hid (∀ (L' : List At) (w : World), Reads L' A (p.sec.map v8) → St w0 X L' w → Calls Try.prog 10 #[.slice A m c, .string p.hs, .string p.sb] w fun e w' => e = .returned (.tuple #[.pointer none, .int .i64 2]) ∧ St w0 X L' w') := Lib.hid (fun L' w hr hs => by rw [HM.out]; exact proNewF hs p A c hr HSH.out.symm HVA.out.symm)
  clear hw
  go_enter Try.func3, Try.ntmps3
  go_wp2_with (first | ((with_reducible refine Se.isL (o := ⟨some 32, _, _, _, _, _⟩) ?_); (refine Se.toL rfl (Se.ldw (o := ⟨some 32, _, _, _, _, _⟩) hs rfl rfl ((Reads.blk 2 rfl)) ((by rw [PLL.out]; kernel_rfl)) (by kernel_rfl) ?_))) | ((with_reducible refine Se.isL (o := ⟨some 46, _, _, _, _, _⟩) ?_); (refine Se.toL rfl (Se.ld (o := ⟨some 46, _, _, _, _, _⟩) hs rfl rfl (Cell.blk 2 rfl P0.out) (by kernel_rfl) ?_))) | ((with_reducible refine Se.isL (o := ⟨some 48, _, _, _, _, _⟩) ?_); (refine Se.toL rfl (Se.ld (o := ⟨some 48, _, _, _, _, _⟩) hs rfl rfl (Cell.blk 2 rfl P1.out) (by kernel_rfl) ?_))) | ((with_reducible refine Se.isL (o := ⟨some 50, _, _, _, _, _⟩) ?_); (refine Se.toL rfl (Se.ld (o := ⟨some 50, _, _, _, _, _⟩) hs rfl rfl (Cell.blk 2 rfl P2.out) (by kernel_rfl) ?_))) | ((with_reducible refine Se.isL (o := ⟨some 56, _, _, _, _, _⟩) ?_); (refine Se.toL rfl (Se.ld (o := ⟨some 56, _, _, _, _, _⟩) hs rfl rfl (Cell.blk 2 rfl P0.out) (by kernel_rfl) ?_))) | ((with_reducible refine Se.isL (o := ⟨some 58, _, _, _, _, _⟩) ?_); (refine Se.toL rfl (Se.ld (o := ⟨some 58, _, _, _, _, _⟩) hs rfl rfl (Cell.blk 2 rfl P1.out) (by kernel_rfl) ?_))) | ((with_reducible refine Se.isL (o := ⟨some 60, _, _, _, _, _⟩) ?_); (refine Se.toL rfl (Se.ld (o := ⟨some 60, _, _, _, _, _⟩) hs rfl rfl (Cell.blk 2 rfl P2.out) (by kernel_rfl) ?_))) | ((first | with_reducible refine Se.ab hs ?_ | with_reducible refine Se.abc hs ?_); clear hs; (first | ((fail_if_success (have _q := g6)); generalize w.heap.size = g6; intro w hs) | ((fail_if_success (have _q := g7)); generalize w.heap.size = g7; intro w hs) | (generalize w.heap.size = g8; intro w hs))) | (go_at_call 7; refine Calls.mono (CS.out _ _ hs) ?_; clear hs; rintro e w ⟨rfl, hs⟩) | (go_at_call 9; refine Calls.mono (CV.out _ _ (((hr0.out.cons _).cons _).cons _) hs) ?_; clear hs; rintro e w ⟨rfl, hs⟩) | (go_at_call 10; refine Calls.mono (CP.out _ _ (((hr0.out.cons _).cons _).cons _) hs) ?_; clear hs; rintro e w ⟨rfl, hs⟩) | (go_at_call 8; refine Calls.mono (known_st hs) ?_; clear hs; rintro e w ⟨rfl, hs⟩))
  go_ret
  exact ⟨rfl, hs.drop.drop.drop⟩
 | true =>
  have CV : Hid (∀ (L' : List At) (w : World), Reads L' A (p.sec.map v8) → St w0 X L' w → Calls Try.prog 9 #[.slice A m c, .string p.hs, .string p.sb] w fun e w' => ∃ g A2 c2, e = .returned (.tuple #[.pointer (some ⟨g, 0, none⟩), .int .i64 0]) ∧ St w0 X (.blk g 56 (vcl { p := p } A2 c2) :: .rd A2 (p.sec.map v8) :: L') w') := Lib.hid (fun L' w hr hs => by rw [HM.out]; exact verNewT hs p A c hr HSH.out.symm HVA.out.symm)
  have CP : Hid (∀ (L' : List At) (w : World), Reads L' A (p.sec.map v8) → St w0 X L' w → Calls Try.prog 10 #[.slice A m c, .string p.hs, .string p.sb] w fun e w' => ∃ g A2 c2, e = .returned (.tuple #[.pointer (some ⟨g, 0, none⟩), .int .i64 0]) ∧ St w0 X (.blk g 59 (vcl { p := p } A2 c2) :: .rd A2 (p.sec.map v8) :: L') w') := Lib.hid (fun L' w hr hs => by rw [HM.out]; exact proNewT hs p A c hr HSH.out.symm HVA.out.symm)
  have K0 := short_ok HSH.out.symm HVA.out.symm
  have K1 := Lib.hid (v1_ok K0 H1.out seq q)
  have K2 := Lib.hid (q1_ok K0 H2.out seq q both)
  have K0 := Lib.hid K0
  go_enter Try.func3, Try.ntmps3
  go_upto_region 4 with (first | ((with_reducible refine Se.isL (o := ⟨some 32, _, _, _, _, _⟩) ?_); (refine Se.toL rfl (Se.ldw (o := ⟨some 32, _, _, _, _, _⟩) hs rfl rfl ((Reads.blk 2 rfl)) ((by rw [PLL.out]; kernel_rfl)) (by kernel_rfl) ?_))) | ((with_reducible refine Se.isL (o := ⟨some 46, _, _, _, _, _⟩) ?_); (refine Se.toL rfl (Se.ld (o := ⟨some 46, _, _, _, _, _⟩) hs rfl rfl (Cell.blk 2 rfl P0.out) (by kernel_rfl) ?_))) | ((with_reducible refine Se.isL (o := ⟨some 48, _, _, _, _, _⟩) ?_); (refine Se.toL rfl (Se.ld (o := ⟨some 48, _, _, _, _, _⟩) hs rfl rfl (Cell.blk 2 rfl P1.out) (by kernel_rfl) ?_))) | ((with_reducible refine Se.isL (o := ⟨some 50, _, _, _, _, _⟩) ?_); (refine Se.toL rfl (Se.ld (o := ⟨some 50, _, _, _, _, _⟩) hs rfl rfl (Cell.blk 2 rfl P2.out) (by kernel_rfl) ?_))) | ((first | with_reducible refine Se.ab hs ?_ | with_reducible refine Se.abc hs ?_); clear hs; (first | ((fail_if_success (have _q := g6)); generalize w.heap.size = g6; intro w hs) | ((fail_if_success (have _q := g7)); generalize w.heap.size = g7; intro w hs) | (generalize w.heap.size = g8; intro w hs))) | (go_at_call 7; refine Calls.mono (CS.out _ _ hs) ?_; clear hs; rintro e w ⟨rfl, hs⟩) | (go_at_call 9; refine Calls.mono (CV.out _ _ (((hr0.out.cons _).cons _).cons _) hs) ?_; clear hs; rintro e w ⟨gv, Av, cv, rfl, hs⟩))
  go_upto_region 7 with (first | ((with_reducible refine Se.isL (o := ⟨some 56, _, _, _, _, _⟩) ?_); (refine Se.toL rfl (Se.ld (o := ⟨some 56, _, _, _, _, _⟩) hs rfl rfl (Cell.blk 4 rfl P0.out) (by kernel_rfl) ?_))) | ((with_reducible refine Se.isL (o := ⟨some 58, _, _, _, _, _⟩) ?_); (refine Se.toL rfl (Se.ld (o := ⟨some 58, _, _, _, _, _⟩) hs rfl rfl (Cell.blk 4 rfl P1.out) (by kernel_rfl) ?_))) | ((with_reducible refine Se.isL (o := ⟨some 60, _, _, _, _, _⟩) ?_); (refine Se.toL rfl (Se.ld (o := ⟨some 60, _, _, _, _, _⟩) hs rfl rfl (Cell.blk 4 rfl P2.out) (by kernel_rfl) ?_))) | (go_at_call 10; refine Calls.mono (CP.out _ _ (((((hr0.out.cons _).cons _).cons _).cons _).cons _) hs) ?_; clear hs; rintro e w ⟨gp, Ap, cp, rfl, hs⟩))
  rw [HF1.out, HF2.out] at hs
  clear CV CP CS d0 d1
  have L1' := Lib.hid (show (first.map v8).length = 32 by simpa using H1.out)
  have L2' := Lib.hid (show (second.map v8).length = 32 by simpa using H2.out)
  go_upto_region 8 with (first | ((with_reducible refine Se.isL (o := ⟨some 81, _, _, _, _, _⟩) ?_); (refine Se.toL rfl (Se.ldw (o := ⟨some 81, _, _, _, _, _⟩) hs rfl rfl ((Reads.blk 5 rfl)) ((by rw [L1'.out]; kernel_rfl)) (by kernel_rfl) ?_))) | (go_at_call 11; refine Calls.mono (chalM (M := [_, _]) (nonce := first) (seq := seq) (q := q) hs K0.out H1.out (chal_ok _ _ _ _ HS0.out) (mC_len H1.out _ _)) ?_; clear hs; rintro e w ⟨r1, A1, c1, rfl, hs⟩))
  simp only [List.cons_append, List.nil_append] at hs
  go_upto_region 9 with (first | ((with_reducible refine Se.isL (o := ⟨some 91, _, _, _, _, _⟩) ?_); (refine Se.toL rfl (Se.ldw (o := ⟨some 91, _, _, _, _, _⟩) hs rfl rfl ((Reads.blk 5 rfl)) ((by rw [L2'.out]; kernel_rfl)) (by kernel_rfl) ?_))) | (go_at_call 12; refine Calls.mono (ansM (M := [_]) (b := mC first seq q) (nonce := second) hs K0.out (by simp) (Reads.own 0 rfl) (mC_len H1.out _ _) (by omega) H2.out (ans_ok p _ _ _ _ both _ rfl H1.out) (mR_len _ _ H2.out _ _ _)) ?_; clear hs; rintro e w ⟨r2, A2, c2, rfl, hs⟩))
  simp only [List.cons_append, List.nil_append] at hs
  go_upto_region 11 with (first | (go_at_call 13; refine Calls.mono (verDoneM (M := [_, _, _, _]) hs K1.out.n (d := false) rfl) ?_; clear hs; rintro e w ⟨rfl, hs⟩) | (go_at_call 14; refine Calls.mono (proDoneM (M := [_, _]) hs K2.out.n (d := false) rfl) ?_; clear hs; rintro e w ⟨rfl, hs⟩))
  simp only [List.cons_append, List.nil_append] at hs
  go_upto_region 12 with (first | (go_at_call 15; refine Calls.mono (checkM (M := [_, _, _, _]) (b := mR p first second seq q both) hs K1.out (by simp [v1]) (Reads.own 0 rfl) (mR_len _ _ H2.out _ _ _) (by omega) (check_ok p _ _ _ _ both _ rfl rfl rfl rfl H1.out H2.out) (mS_len _ _ _ _ _)) ?_; clear hs; rintro e w ⟨r3, A3, c3, rfl, hs⟩))
  simp only [List.cons_append, List.nil_append] at hs
  go_upto_region 13 with (first | (go_at_call 16; refine Calls.mono (finM (M := [_, _, _]) (b := mS p second seq q both) hs K2.out (by simp [q1]) (Reads.own 0 rfl) (mS_len _ _ _ _ _) (by omega) (fin_ok p _ _ _ both _ rfl rfl rfl rfl H2.out)) ?_; clear hs; rintro e w ⟨rfl, hs⟩))
  simp only [List.cons_append, List.nil_append] at hs
  go_upto_region 15 with (first | (go_at_call 13; refine Calls.mono (verDoneM (M := [_, _, _, _, _]) hs K1.out.n (d := true) rfl) ?_; clear hs; rintro e w ⟨rfl, hs⟩) | (go_at_call 14; refine Calls.mono (proDoneM (M := [_, _, _]) hs K2.out.n (d := true) rfl) ?_; clear hs; rintro e w ⟨rfl, hs⟩))
  simp only [List.cons_append, List.nil_append] at hs
  go_upto_region 16 with (first | (go_at_call 15; refine Calls.mono (checkM (M := [_, _, _, _, _]) (b := mR p first second seq q both) hs (od_ok K1.out _ _) (by simp [v1]) (Reads.own 1 rfl) (mR_len _ _ H2.out _ _ _) (by omega) (check_closed p _ _ _ _ both _ rfl H2.out) rfl) ?_; clear hs; rintro e w ⟨r4, A4, c4, rfl, hs⟩))
  simp only [List.cons_append, List.nil_append] at hs
  replace hs := hs.drop
  go_upto_region 17 with (first | ((with_reducible refine Se.isL (o := ⟨some 142, _, _, _, _, _⟩) ?_); (refine Se.toL rfl (Se.ldw (o := ⟨some 142, _, _, _, _, _⟩) hs rfl rfl ((Reads.blk 8 rfl)) ((by rw [L1'.out]; kernel_rfl)) (by kernel_rfl) ?_))) | (go_at_call 11; refine Calls.mono (chalM (M := [_, _, _, _, _]) (nonce := first) (seq := seq) (q := q) hs (od_ok K1.out _ _) H1.out (chal_no _ _ _ _ (Nat.le_refl _)) rfl) ?_; clear hs; rintro e w ⟨r5, A5, c5, rfl, hs⟩))
  simp only [List.cons_append, List.nil_append] at hs
  replace hs := hs.drop
  go_upto_region 18 with (first | ((with_reducible refine Se.isL (o := ⟨some 150, _, _, _, _, _⟩) ?_); (refine Se.toL rfl (Se.ldw (o := ⟨some 150, _, _, _, _, _⟩) hs rfl rfl ((Reads.blk 8 rfl)) ((by rw [L1'.out]; kernel_rfl)) (by kernel_rfl) ?_))) | (go_at_call 11; refine Calls.mono (chalM (M := [_, _, _, _, _]) (nonce := first) (seq := seq + 1#32) (q := q) hs (od_ok K1.out _ _) H1.out (chal_ok _ _ _ _ (by rw [HS1.out]; exact Nat.lt_succ_self _)) (mC_len H1.out _ _)) ?_; clear hs; rintro e w ⟨r6, A6, c6, rfl, hs⟩))
  simp only [List.cons_append, List.nil_append] at hs
  go_upto_region 19 with (first | (go_at_call 15; refine Calls.mono (checkM (M := [_, _, _, _, _, _]) (b := mR p first second seq q both) hs (v1_ok (od_ok K1.out _ _) H1.out _ _) (by simp [v1]) (Reads.own 2 rfl) (mR_len _ _ H2.out _ _ _) (by omega) (check_other p _ _ _ _ both _ rfl (fun e => by have h := HS1.out; rw [show seq + 1#32 = seq from e.symm] at h; omega) H2.out) rfl) ?_; clear hs; rintro e w ⟨r7, A7, c7, rfl, hs⟩))
  simp only [List.cons_append, List.nil_append] at hs
  replace hs := hs.drop
  go_wp2_with (first | (go_at_call 13; refine Calls.mono (verDoneM (M := [_, _, _, _, _, _]) hs (o_ok (v1_ok (od_ok K1.out _ _) H1.out _ _) _).n (d := false) rfl) ?_; clear hs; rintro e w ⟨rfl, hs⟩) | (go_at_call 16; refine Calls.mono (finM (M := [_, _, _, _]) (b := mS p second seq q both) hs (od_ok K2.out _ _) (by simp [q1]) (Reads.own 1 rfl) (mS_len _ _ _ _ _) (by omega) (fin_closed p _ _ _ both _ rfl)) ?_; clear hs; rintro e w ⟨rfl, hs⟩) | (go_at_call 8; refine Calls.mono (known_st hs) ?_; clear hs; rintro e w ⟨rfl, hs⟩))
  go_ret
  exact ⟨rfl, hs.drop.drop.drop.drop.drop.drop.drop.drop.drop.drop.drop⟩
theorem completes_any (W : World) {p : Pn} {A : Option Addr} {c : Nat} (hr : Rd W A (p.sec.map v8)) {first second : Bs} (h1 : first.length = 32) (h2 : second.length = 32) (seq : BitVec 32) (q : BitVec 16) (both : Bool) :
  Calls Try.prog 3 #[.agg (pcl p A c).toArray, .agg (first.map v8).toArray, .agg (second.map v8).toArray, .int .u32 (n32 seq), .int .u16 (n16 q), .bool both] W fun e w' => e = .returned (.bool true) ∧ Below W.heap.size W w' :=
 (completes_st (St.start (L := [.rd A (p.sec.map v8)]) W (fun a ha => by rw [List.mem_singleton.1 ha]; exact hr) rfl) p A c (Reads.rd 0 rfl) first second h1 h2 seq q both).mono fun _ _ ⟨h1, h2⟩ => ⟨h1, h2.below⟩
end Au
end Go.Proofs.Ytakdoijemopejaa

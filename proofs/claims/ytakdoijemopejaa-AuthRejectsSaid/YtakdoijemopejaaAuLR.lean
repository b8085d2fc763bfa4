/- Layer 38's law AuthRejects, the walk. No condition but Go's own limits. -/
import Derived.Test.YtakdoijemopejaaAuNew
import Derived.Test.YtakdoijemopejaaAuCopy
import Derived.Test.YtakdoijemopejaaAuFlip
import Derived.Test.YtakdoijemopejaaAuLY
set_option linter.unusedSimpArgs false
set_option linter.unusedVariables false
namespace Go.Proofs.Ytakdoijemopejaa
open Go Go.RowKit
namespace Au
open Se (St At Reads Cell)
open Li (v8 v8_one Rd Blk Fr)
open Bv (n8 n16 n32 n64)
variable {w0 w : World} {X : List Nat} {L M : List At}
attribute [local irreducible] Calls
section
attribute [local go_sem ↓] Bv.xor_n8 Bv.shl_n8
attribute [local go_sem] Bv.of_n8
set_option maxRecDepth 100000 in
set_option maxHeartbeats 4000000 in
theorem rejects_st (hs : St w0 X L w) (p : Pn) (A : Option Addr) (c : Nat) (hr : Reads L A (p.sec.map v8)) (first second : Bs) (h1 : first.length = 32) (h2 : second.length = 32) (bit : Int) :
  Calls Try.prog 4 #[.agg (pcl p A c).toArray, .agg (first.map v8).toArray, .agg (second.map v8).toArray, .int .i64 bit] w fun e w' => e = .returned (.bool true) ∧ St w0 X L w' := by
 obtain ⟨PL, hPL⟩ : ∃ PL, PL = pcl p A c := ⟨_, rfl⟩
 obtain ⟨m, hm⟩ : ∃ m, m = p.sec.length := ⟨_, rfl⟩
 have P0 := Lib.hid (show PL[0]? = some (.slice A m c) by rw [hPL, hm]; rfl)
 have P1 := Lib.hid (show PL[1]? = some (.string p.hs) by rw [hPL]; rfl)
 have P2 := Lib.hid (show PL[2]? = some (.string p.sb) by rw [hPL]; rfl)
 have PLL := Lib.hid (show PL.length = 3 by rw [hPL]; rfl)
 have hr0 := Lib.hid hr
 obtain ⟨sh, hsh⟩ : ∃ sh, sh = short p := ⟨_, rfl⟩
 have CS : Hid (∀ (L' : List At) (w : World), St w0 X L' w → Calls Try.prog 7 #[.agg PL.toArray] w fun e w' => e = .returned (.bool sh) ∧ St w0 X L' w') := Lib.hid (fun L' w hs => by rw [hPL, hsh]; exact short_st hs p A c)
 obtain ⟨va, hva⟩ : ∃ va, va = valid p.py := ⟨_, rfl⟩
 have HM := Lib.hid hm
 have HSH := Lib.hid hsh
 have HVA := Lib.hid hva
 obtain ⟨F1, hF1⟩ : ∃ F1, F1 = first.map v8 := ⟨_, rfl⟩
 obtain ⟨F2, hF2⟩ : ∃ F2, F2 = second.map v8 := ⟨_, rfl⟩
 have HF1 := Lib.hid hF1
 have HF2 := Lib.hid hF2
 have H1 := Lib.hid h1
 have H2 := Lib.hid h2
 rw [← hPL, ← hF1, ← hF2]
 clear hPL hF1 hF2 hm hr h1 h2 hsh hva
 cases sh with
 | false =>
  go_enter Try.func4, Try.ntmps4
  go_wp2_with (first | ((with_reducible refine Se.isL (o := ⟨some 25, _, _, _, _, _⟩) ?_); (refine Se.toL rfl (Se.ldw (o := ⟨some 25, _, _, _, _, _⟩) hs rfl rfl ((Reads.blk 2 rfl)) ((by rw [PLL.out]; kernel_rfl)) (by kernel_rfl) ?_))) | ((first | with_reducible refine Se.ab hs ?_ | with_reducible refine Se.abc hs ?_); clear hs; (first | ((fail_if_success (have _q := g4)); generalize w.heap.size = g4; intro w hs) | ((fail_if_success (have _q := g5)); generalize w.heap.size = g5; intro w hs) | (generalize w.heap.size = g6; intro w hs))) | (go_at_call 7; refine Calls.mono (CS.out _ _ hs) ?_; clear hs; rintro e w ⟨rfl, hs⟩) | (go_at_call 8; refine Calls.mono (known_st hs) ?_; clear hs; rintro e w ⟨rfl, hs⟩))
  go_ret
  exact ⟨rfl, hs.drop.drop.drop⟩
 | true =>
 by_cases b0 : bit < 0
 ·have d0 : decide (bit < 0) = true := by simpa using b0
  clear b0
  go_enter Try.func4, Try.ntmps4
  go_wp2_with (first | ((with_reducible refine Se.isL (o := ⟨some 25, _, _, _, _, _⟩) ?_); (refine Se.toL rfl (Se.ldw (o := ⟨some 25, _, _, _, _, _⟩) hs rfl rfl ((Reads.blk 2 rfl)) ((by rw [PLL.out]; kernel_rfl)) (by kernel_rfl) ?_))) | ((first | with_reducible refine Se.ab hs ?_ | with_reducible refine Se.abc hs ?_); clear hs; (first | ((fail_if_success (have _q := g4)); generalize w.heap.size = g4; intro w hs) | ((fail_if_success (have _q := g5)); generalize w.heap.size = g5; intro w hs) | (generalize w.heap.size = g6; intro w hs))) | (go_at_call 7; refine Calls.mono (CS.out _ _ hs) ?_; clear hs; rintro e w ⟨rfl, hs⟩) | (go_at_call 8; refine Calls.mono (known_st hs) ?_; clear hs; rintro e w ⟨rfl, hs⟩))
  go_ret
  exact ⟨rfl, hs.drop.drop.drop⟩
 have d0 : decide (bit < 0) = false := by simpa using b0
 by_cases b1 : 255 < bit
 ·have d1 : decide (255 < bit) = true := by simpa using b1
  clear b0 b1
  go_enter Try.func4, Try.ntmps4
  go_wp2_with (first | ((with_reducible refine Se.isL (o := ⟨some 25, _, _, _, _, _⟩) ?_); (refine Se.toL rfl (Se.ldw (o := ⟨some 25, _, _, _, _, _⟩) hs rfl rfl ((Reads.blk 2 rfl)) ((by rw [PLL.out]; kernel_rfl)) (by kernel_rfl) ?_))) | ((first | with_reducible refine Se.ab hs ?_ | with_reducible refine Se.abc hs ?_); clear hs; (first | ((fail_if_success (have _q := g4)); generalize w.heap.size = g4; intro w hs) | ((fail_if_success (have _q := g5)); generalize w.heap.size = g5; intro w hs) | (generalize w.heap.size = g6; intro w hs))) | (go_at_call 7; refine Calls.mono (CS.out _ _ hs) ?_; clear hs; rintro e w ⟨rfl, hs⟩) | (go_at_call 8; refine Calls.mono (known_st hs) ?_; clear hs; rintro e w ⟨rfl, hs⟩))
  go_ret
  exact ⟨rfl, hs.drop.drop.drop⟩
 obtain ⟨k, rfl⟩ : ∃ k : Nat, bit = (k : Int) := ⟨bit.toNat, by omega⟩
 have hk : k < 256 := by omega
 have d1 : decide (255 < (k : Int)) = false := by simpa using b1
 have HK := Lib.hid hk
 obtain ⟨j, hj⟩ : ∃ j, j = k / 8 := ⟨_, rfl⟩
 obtain ⟨t, ht⟩ : ∃ t, t = k % 8 := ⟨_, rfl⟩
 have HJ := Lib.hid (show j = k / 8 ∧ t = k % 8 ∧ j < 32 from ⟨hj, ht, by omega⟩)
 have hw1 : IntKind.i64.wrap ((k : Int) / 8) = (j : Int) := by rw [IntWalk.i64_in _ (by omega)]; omega
 have hw2 : IntKind.i64.wrap (8 + (j : Int)) = 8 + (j : Int) := by rw [IntWalk.i64_in _ (by omega)]
 have hw3 : (k : Int).tmod 8 = (t : Int) := by rw [Int.tmod_eq_emod_of_nonneg (by omega)]; omega
 have hb1 : 8 + (j : Int) < 72 := by omega
 have hb2 : 8 + (j : Int) < 40 := by omega
 have hb0 : 0 ≤ 8 + (j : Int) := by omega
 have ht0 : (0 : Int) ≤ (t : Int) := by omega
 have htn : (8 + (j : Int)).toNat = 8 + j := by omega
 have HW := Lib.hid (And.intro hw1 (And.intro hw2 (And.intro hw3 (And.intro hb1 (And.intro hb2 (And.intro hb0 (And.intro ht0 htn)))))))
 clear b0 b1 hk hw1 hw2 hw3 hb1 hb2 hb0 ht0 htn hj ht
 cases va with
 | false =>
  have CV : Hid (∀ (L' : List At) (w : World), Reads L' A (p.sec.map v8) → St w0 X L' w → Calls Try.prog 9 #[.slice A m c, .string p.hs, .string p.sb] w fun e w' => e = .returned (.tuple #[.pointer none, .int .i64 2]) ∧ St w0 X L' w') := Lib.hid (fun L' w hr hs => by rw [HM.out]; exact verNewF hs p A c hr HSH.out.symm HVA.out.symm)
  have CP : Hid (∀ (L' : List At) (w : World), Reads L' A (p.sec.map v8) → St w0 X L' w → Calls Try.prog 10 #[.slice A m c, .string p.hs, .string p.sb] w fun e w' => e = .returned (.tuple #[.pointer none, .int .i64 2]) ∧ St w0 X L' w') := Lib.hid (fun L' w hr hs => by rw [HM.out]; exact proNewF hs p A c hr HSH.out.symm HVA.out.symm)
  go_enter Try.func4, Try.ntmps4
  go_wp2_with (first | ((with_reducible refine Se.isL (o := ⟨some 25, _, _, _, _, _⟩) ?_); (refine Se.toL rfl (Se.ldw (o := ⟨some 25, _, _, _, _, _⟩) hs rfl rfl ((Reads.blk 2 rfl)) ((by rw [PLL.out]; kernel_rfl)) (by kernel_rfl) ?_))) | ((with_reducible refine Se.isL (o := ⟨some 39, _, _, _, _, _⟩) ?_); (refine Se.toL rfl (Se.ld (o := ⟨some 39, _, _, _, _, _⟩) hs rfl rfl (Cell.blk 2 rfl P0.out) (by kernel_rfl) ?_))) | ((with_reducible refine Se.isL (o := ⟨some 41, _, _, _, _, _⟩) ?_); (refine Se.toL rfl (Se.ld (o := ⟨some 41, _, _, _, _, _⟩) hs rfl rfl (Cell.blk 2 rfl P1.out) (by kernel_rfl) ?_))) | ((with_reducible refine Se.isL (o := ⟨some 43, _, _, _, _, _⟩) ?_); (refine Se.toL rfl (Se.ld (o := ⟨some 43, _, _, _, _, _⟩) hs rfl rfl (Cell.blk 2 rfl P2.out) (by kernel_rfl) ?_))) | ((with_reducible refine Se.isL (o := ⟨some 49, _, _, _, _, _⟩) ?_); (refine Se.toL rfl (Se.ld (o := ⟨some 49, _, _, _, _, _⟩) hs rfl rfl (Cell.blk 2 rfl P0.out) (by kernel_rfl) ?_))) | ((with_reducible refine Se.isL (o := ⟨some 51, _, _, _, _, _⟩) ?_); (refine Se.toL rfl (Se.ld (o := ⟨some 51, _, _, _, _, _⟩) hs rfl rfl (Cell.blk 2 rfl P1.out) (by kernel_rfl) ?_))) | ((with_reducible refine Se.isL (o := ⟨some 53, _, _, _, _, _⟩) ?_); (refine Se.toL rfl (Se.ld (o := ⟨some 53, _, _, _, _, _⟩) hs rfl rfl (Cell.blk 2 rfl P2.out) (by kernel_rfl) ?_))) | ((first | with_reducible refine Se.ab hs ?_ | with_reducible refine Se.abc hs ?_); clear hs; (first | ((fail_if_success (have _q := g4)); generalize w.heap.size = g4; intro w hs) | ((fail_if_success (have _q := g5)); generalize w.heap.size = g5; intro w hs) | (generalize w.heap.size = g6; intro w hs))) | (go_at_call 7; refine Calls.mono (CS.out _ _ hs) ?_; clear hs; rintro e w ⟨rfl, hs⟩) | (go_at_call 9; refine Calls.mono (CV.out _ _ (((hr0.out.cons _).cons _).cons _) hs) ?_; clear hs; rintro e w ⟨rfl, hs⟩) | (go_at_call 10; refine Calls.mono (CP.out _ _ (((hr0.out.cons _).cons _).cons _) hs) ?_; clear hs; rintro e w ⟨rfl, hs⟩) | (go_at_call 8; refine Calls.mono (known_st hs) ?_; clear hs; rintro e w ⟨rfl, hs⟩))
  go_ret
  exact ⟨rfl, hs.drop.drop.drop⟩
 | true =>
  have CV : Hid (∀ (L' : List At) (w : World), Reads L' A (p.sec.map v8) → St w0 X L' w → Calls Try.prog 9 #[.slice A m c, .string p.hs, .string p.sb] w fun e w' => ∃ g A2 c2, e = .returned (.tuple #[.pointer (some ⟨g, 0, none⟩), .int .i64 0]) ∧ St w0 X (.blk g 56 (vcl { p := p } A2 c2) :: .rd A2 (p.sec.map v8) :: L') w') := Lib.hid (fun L' w hr hs => by rw [HM.out]; exact verNewT hs p A c hr HSH.out.symm HVA.out.symm)
  have CP : Hid (∀ (L' : List At) (w : World), Reads L' A (p.sec.map v8) → St w0 X L' w → Calls Try.prog 10 #[.slice A m c, .string p.hs, .string p.sb] w fun e w' => ∃ g A2 c2, e = .returned (.tuple #[.pointer (some ⟨g, 0, none⟩), .int .i64 0]) ∧ St w0 X (.blk g 59 (vcl { p := p } A2 c2) :: .rd A2 (p.sec.map v8) :: L') w') := Lib.hid (fun L' w hr hs => by rw [HM.out]; exact proNewT hs p A c hr HSH.out.symm HVA.out.symm)
  have K0 := short_ok HSH.out.symm HVA.out.symm
  have K1 := Lib.hid (v1_ok K0 H1.out 1#32 0#16)
  have K2 := Lib.hid (q1_ok K0 H2.out 1#32 0#16 true)
  have K0 := Lib.hid K0
  go_enter Try.func4, Try.ntmps4
  go_upto_region 4 with (first | ((with_reducible refine Se.isL (o := ⟨some 25, _, _, _, _, _⟩) ?_); (refine Se.toL rfl (Se.ldw (o := ⟨some 25, _, _, _, _, _⟩) hs rfl rfl ((Reads.blk 2 rfl)) ((by rw [PLL.out]; kernel_rfl)) (by kernel_rfl) ?_))) | ((with_reducible refine Se.isL (o := ⟨some 39, _, _, _, _, _⟩) ?_); (refine Se.toL rfl (Se.ld (o := ⟨some 39, _, _, _, _, _⟩) hs rfl rfl (Cell.blk 2 rfl P0.out) (by kernel_rfl) ?_))) | ((with_reducible refine Se.isL (o := ⟨some 41, _, _, _, _, _⟩) ?_); (refine Se.toL rfl (Se.ld (o := ⟨some 41, _, _, _, _, _⟩) hs rfl rfl (Cell.blk 2 rfl P1.out) (by kernel_rfl) ?_))) | ((with_reducible refine Se.isL (o := ⟨some 43, _, _, _, _, _⟩) ?_); (refine Se.toL rfl (Se.ld (o := ⟨some 43, _, _, _, _, _⟩) hs rfl rfl (Cell.blk 2 rfl P2.out) (by kernel_rfl) ?_))) | ((first | with_reducible refine Se.ab hs ?_ | with_reducible refine Se.abc hs ?_); clear hs; (first | ((fail_if_success (have _q := g4)); generalize w.heap.size = g4; intro w hs) | ((fail_if_success (have _q := g5)); generalize w.heap.size = g5; intro w hs) | (generalize w.heap.size = g6; intro w hs))) | (go_at_call 7; refine Calls.mono (CS.out _ _ hs) ?_; clear hs; rintro e w ⟨rfl, hs⟩) | (go_at_call 9; refine Calls.mono (CV.out _ _ (((hr0.out.cons _).cons _).cons _) hs) ?_; clear hs; rintro e w ⟨gv, Av, cv, rfl, hs⟩))
  go_upto_region 7 with (first | ((with_reducible refine Se.isL (o := ⟨some 49, _, _, _, _, _⟩) ?_); (refine Se.toL rfl (Se.ld (o := ⟨some 49, _, _, _, _, _⟩) hs rfl rfl (Cell.blk 4 rfl P0.out) (by kernel_rfl) ?_))) | ((with_reducible refine Se.isL (o := ⟨some 51, _, _, _, _, _⟩) ?_); (refine Se.toL rfl (Se.ld (o := ⟨some 51, _, _, _, _, _⟩) hs rfl rfl (Cell.blk 4 rfl P1.out) (by kernel_rfl) ?_))) | ((with_reducible refine Se.isL (o := ⟨some 53, _, _, _, _, _⟩) ?_); (refine Se.toL rfl (Se.ld (o := ⟨some 53, _, _, _, _, _⟩) hs rfl rfl (Cell.blk 4 rfl P2.out) (by kernel_rfl) ?_))) | (go_at_call 10; refine Calls.mono (CP.out _ _ (((((hr0.out.cons _).cons _).cons _).cons _).cons _) hs) ?_; clear hs; rintro e w ⟨gp, Ap, cp, rfl, hs⟩))
  rw [HF1.out, HF2.out] at hs
  clear CV CP CS d0 d1
  have L1' := Lib.hid (show (first.map v8).length = 32 by simpa using H1.out)
  have L2' := Lib.hid (show (second.map v8).length = 32 by simpa using H2.out)
  go_upto_region 8 with (first | ((with_reducible refine Se.isL (o := ⟨some 66, _, _, _, _, _⟩) ?_); (refine Se.toL rfl (Se.ldw (o := ⟨some 66, _, _, _, _, _⟩) hs rfl rfl ((Reads.blk 5 rfl)) ((by rw [L1'.out]; kernel_rfl)) (by kernel_rfl) ?_))) | (go_at_call 11; refine Calls.mono (chalM (M := [_, _]) (nonce := first) (seq := 1#32) (q := 0#16) hs K0.out H1.out (chal_ok _ _ _ _ (show (0:Nat) < 1 by omega)) (mC_len H1.out _ _)) ?_; clear hs; rintro e w ⟨r1, A1, c1, rfl, hs⟩))
  try simp only [List.cons_append, List.nil_append] at hs
  go_upto_region 9 with (first | ((with_reducible refine Se.isL (o := ⟨some 73, _, _, _, _, _⟩) ?_); (refine Se.toL rfl (Se.ldw (o := ⟨some 73, _, _, _, _, _⟩) hs rfl rfl ((Reads.blk 5 rfl)) ((by rw [L2'.out]; kernel_rfl)) (by kernel_rfl) ?_))) | (go_at_call 12; refine Calls.mono (ansM (M := [_]) (b := mC first 1#32 0#16) (nonce := second) hs K0.out (by simp) (Reads.own 0 rfl) (mC_len H1.out _ _) (by omega) H2.out (ans_ok p _ _ _ _ true _ rfl H1.out) (mR_len _ _ H2.out _ _ _)) ?_; clear hs; rintro e w ⟨r2, A2, c2, rfl, hs⟩))
  try simp only [List.cons_append, List.nil_append] at hs
  go_upto_region 12 with (first | (go_at_call 17; refine Calls.mono (verCopyM (M := [_, _, _, _]) hs K1.out) ?_; clear hs; rintro e w ⟨gw, rfl, hs⟩))
  try simp only [List.cons_append, List.nil_append] at hs
  go_upto_region 13 with (first | (go_at_call 18; refine Calls.mono (own_st hs (Reads.own 1 rfl) (v8_one _) (by rw [List.length_map]; exact mR_len p first H2.out 1#32 0#16 true) (by omega)) ?_; clear hs; rintro e w ⟨A3, c3, r3, rfl, hs⟩))
  obtain ⟨gb, ob, rfl, rfl⟩ := hs.own_at 0 rfl (by omega)
  have ⟨hw1, hw2, hw3, hb1, hb2, hb0, ht0, htn⟩ := HW.out
  obtain ⟨x, hx⟩ : ∃ x, x = (mR p first second 1#32 0#16 true).getD (8 + j) 0#8 := ⟨_, rfl⟩
  have hml := Lib.hid (show (mR p first second 1#32 0#16 true).length = 72 from (mR_len p first H2.out 1#32 0#16 true).symm)
  have HXa := Lib.hid (show ((mR p first second 1#32 0#16 true).map v8)[8 + j]? = some (.int .u8 (n8 x)) by rw [hx]; simp [show 8 + j < (mR p first second 1#32 0#16 true).length by rw [hml.out]; have := HJ.out.2.2; omega])
  have HFa := Lib.hid (show ((mR p first second 1#32 0#16 true).map v8).set (8 + j) (.int .u8 (n8 (x ^^^ (1#8 <<< t)))) = (flip (mR p first second 1#32 0#16 true) k).map v8 by rw [flip, ← HJ.out.1, ← HJ.out.2.1, ← hx, List.map_set])
  have HLa := Lib.hid (show 8 + j < ((mR p first second 1#32 0#16 true).map v8).length by rw [List.length_map, hml.out]; have := HJ.out.2.2; omega)
  clear hx hml
  refine Ch.region' 16 (fun _ => True) (fun | 9 => true | 15 => true | _ => false) (by kernel_rfl) (by decide +kernel) (trivial) ?_
  replace hs := hs.drew
  generalize w.drew = w at hs ⊢
  change Ch.CW _ _ _ _ _ [0, 1, 2, 3, 4, 5, 6, 7, 8, 9, 10, 11, 12, 13, 14, 15] _ _
  iterate 9 (refine Ch.pure (v := ?_) (by rfl) (by rfl) (by rfl) (fun wx hS => ?_) ?_; rotate_left; (focus (go_simp; (first | done | with_reducible rfl))); (try simp only [Act.put, List.setIfInBounds_toArray, List.set_cons_zero, List.set_cons_succ]))
  refine Ch.noise (by rfl) (by rfl) (by rfl) (Se.ld hs rfl rfl ((Reads.own 0 rfl).cell (8 + j) HXa.out) (by kernel_rfl) ?_)
  refine ⟨trivial, ?_⟩
  (try simp only [Act.put, List.setIfInBounds_toArray, List.set_cons_zero, List.set_cons_succ])
  iterate 5 (refine Ch.pure (v := ?_) (by rfl) (by rfl) (by rfl) (fun wx hS => ?_) ?_; rotate_left; (focus (go_simp; (first | done | with_reducible rfl))); (try simp only [Act.put, List.setIfInBounds_toArray, List.set_cons_zero, List.set_cons_succ]))
  refine Ch.noise (by rfl) (by rfl) (by rfl) (Se.sooe 0 (i := 8 + j) (v := .int .u8 (n8 (x ^^^ (1#8 <<< t)))) hs rfl rfl rfl rfl rfl (by kernel_rfl) rfl HLa.out HFa.out ?_)
  clear hs
  intro w hs
  try simp only [List.set_cons_zero] at hs
  refine ⟨trivial, ?_⟩
  (try simp only [Act.put, List.setIfInBounds_toArray, List.set_cons_zero, List.set_cons_succ])
  refine Ch.done ?_
  try simp only [List.drop_succ_cons, List.drop_zero]
  clear HXa HFa HLa
  clear hw1 hw2 hw3 hb1 hb2 hb0 ht0 htn
  go_upto_region 15 with (first | (go_at_call 15; refine Calls.mono (checkM (M := [_, _, _, _, _, _]) (b := flip (mR p first second 1#32 0#16 true) k) hs K1.out (by simp [v1]) (Reads.own 0 rfl) (by rw [flip_len]; exact mR_len p first H2.out 1#32 0#16 true) (by omega) (check_flip p _ _ _ _ _ rfl rfl rfl rfl H2.out HK.out) rfl) ?_; clear hs; rintro e w ⟨r4, A4, c4, rfl, hs⟩))
  try simp only [List.cons_append, List.nil_append] at hs
  replace hs := hs.drop
  go_upto_region 16 with (first | (go_at_call 15; refine Calls.mono (checkM (M := [_, _, _, _, _, _]) (b := mR p first second 1#32 0#16 true) hs (o_ok K1.out _) (by simp [v1]) (Reads.own 2 rfl) (mR_len _ _ H2.out _ _ _) (by omega) (check_closed p _ _ _ _ true _ rfl H2.out) rfl) ?_; clear hs; rintro e w ⟨r5, A5, c5, rfl, hs⟩))
  try simp only [List.cons_append, List.nil_append] at hs
  replace hs := hs.drop
  go_upto_region 18 with (first | (go_at_call 13; refine Calls.mono (verDoneM (M := [_, _, _, _, _, _]) hs K1.out.n (d := false) rfl) ?_; clear hs; rintro e w ⟨rfl, hs⟩))
  try simp only [List.cons_append, List.nil_append] at hs
  go_upto_region 19 with (first | (go_at_call 15; refine Calls.mono (checkM (M := [_]) (b := mR p first second 1#32 0#16 true) hs K1.out (by simp [v1]) (Reads.own 1 rfl) (mR_len _ _ H2.out _ _ _) (by omega) (check_ok p _ _ _ _ true _ rfl rfl rfl rfl H1.out H2.out) (mS_len _ _ _ _ _)) ?_; clear hs; rintro e w ⟨r6, A6, c6, rfl, hs⟩))
  try simp only [List.cons_append, List.nil_append] at hs
  obtain ⟨gs, os, rfl, rfl⟩ := hs.own_at 0 rfl (by omega)
  go_upto_region 21 with (fail)
  have ⟨hw1, hw2, hw3, hb1, hb2, hb0, ht0, htn⟩ := HW.out
  obtain ⟨x, hx⟩ : ∃ x, x = (mS p second 1#32 0#16 true).getD (8 + j) 0#8 := ⟨_, rfl⟩
  have hml := Lib.hid (show (mS p second 1#32 0#16 true).length = 40 from (mS_len p second 1#32 0#16 true).symm)
  have HXb := Lib.hid (show ((mS p second 1#32 0#16 true).map v8)[8 + j]? = some (.int .u8 (n8 x)) by rw [hx]; simp [show 8 + j < (mS p second 1#32 0#16 true).length by rw [hml.out]; have := HJ.out.2.2; omega])
  have HFb := Lib.hid (show ((mS p second 1#32 0#16 true).map v8).set (8 + j) (.int .u8 (n8 (x ^^^ (1#8 <<< t)))) = (flip (mS p second 1#32 0#16 true) k).map v8 by rw [flip, ← HJ.out.1, ← HJ.out.2.1, ← hx, List.map_set])
  have HLb := Lib.hid (show 8 + j < ((mS p second 1#32 0#16 true).map v8).length by rw [List.length_map, hml.out]; have := HJ.out.2.2; omega)
  clear hx hml
  refine Ch.region' 16 (fun _ => True) (fun | 9 => true | 15 => true | _ => false) (by kernel_rfl) (by decide +kernel) (trivial) ?_
  replace hs := hs.drew
  generalize w.drew = w at hs ⊢
  change Ch.CW _ _ _ _ _ [0, 1, 2, 3, 4, 5, 6, 7, 8, 9, 10, 11, 12, 13, 14, 15] _ _
  iterate 9 (refine Ch.pure (v := ?_) (by rfl) (by rfl) (by rfl) (fun wx hS => ?_) ?_; rotate_left; (focus (go_simp; (first | done | with_reducible rfl))); (try simp only [Act.put, List.setIfInBounds_toArray, List.set_cons_zero, List.set_cons_succ]))
  refine Ch.noise (by rfl) (by rfl) (by rfl) (Se.ld hs rfl rfl ((Reads.own 0 rfl).cell (8 + j) HXb.out) (by kernel_rfl) ?_)
  refine ⟨trivial, ?_⟩
  (try simp only [Act.put, List.setIfInBounds_toArray, List.set_cons_zero, List.set_cons_succ])
  iterate 5 (refine Ch.pure (v := ?_) (by rfl) (by rfl) (by rfl) (fun wx hS => ?_) ?_; rotate_left; (focus (go_simp; (first | done | with_reducible rfl))); (try simp only [Act.put, List.setIfInBounds_toArray, List.set_cons_zero, List.set_cons_succ]))
  refine Ch.noise (by rfl) (by rfl) (by rfl) (Se.sooe 0 (i := 8 + j) (v := .int .u8 (n8 (x ^^^ (1#8 <<< t)))) hs rfl rfl rfl rfl rfl (by kernel_rfl) rfl HLb.out HFb.out ?_)
  clear hs
  intro w hs
  try simp only [List.set_cons_zero] at hs
  refine ⟨trivial, ?_⟩
  (try simp only [Act.put, List.setIfInBounds_toArray, List.set_cons_zero, List.set_cons_succ])
  refine Ch.done ?_
  try simp only [List.drop_succ_cons, List.drop_zero]
  clear HXb HFb HLb
  clear hw1 hw2 hw3 hb1 hb2 hb0 ht0 htn
  go_wp2_with (first | (go_at_call 16; fail))
  refine Calls.mono (finM (M := [_, _, _, _, _]) (b := flip (mS p second 1#32 0#16 true) k) hs K2.out (by simp [q1]) (Reads.own 0 rfl) (by rw [flip_len]; exact mS_len p second 1#32 0#16 true) (by omega) (fin_flip p second _ _ _ rfl rfl rfl rfl HK.out)) ?_
  clear hs
  rintro e w ⟨rfl, hs⟩
  try simp only [List.cons_append, List.nil_append] at hs
  go_wp2_with (first | (go_at_call 14; refine Calls.mono (proDoneM (M := [_, _, _, _, _]) hs K2.out.n (d := false) rfl) ?_; clear hs; rintro e w ⟨rfl, hs⟩) | (go_at_call 16; fail))
  try simp only [List.cons_append, List.nil_append] at hs
  refine Calls.mono (finM (M := [_, _, _, _, _]) (b := flip (mS p second 1#32 0#16 true) k) hs (o_ok K2.out _) (by simp [q1]) (Reads.own 0 rfl) (by rw [flip_len]; exact mS_len p second 1#32 0#16 true) (by omega) (fin_flip_closed p second _ _ _ rfl _)) ?_
  clear hs
  rintro e w ⟨rfl, hs⟩
  try simp only [List.cons_append, List.nil_append] at hs
  go_wp2_with (first | (go_at_call 8; refine Calls.mono (known_st hs) ?_; clear hs; rintro e w ⟨rfl, hs⟩))
  go_ret
  exact ⟨rfl, hs.drop.drop.drop.drop.drop.drop.drop.drop.drop.drop.drop.drop⟩
end
theorem rejects_any (W : World) {p : Pn} {A : Option Addr} {c : Nat} (hr : Rd W A (p.sec.map v8)) {first second : Bs} (h1 : first.length = 32) (h2 : second.length = 32) (bit : Int) :
  Calls Try.prog 4 #[.agg (pcl p A c).toArray, .agg (first.map v8).toArray, .agg (second.map v8).toArray, .int .i64 bit] W fun e w' => e = .returned (.bool true) ∧ Below W.heap.size W w' :=
 (rejects_st (St.start (L := [.rd A (p.sec.map v8)]) W (fun a ha => by rw [List.mem_singleton.1 ha]; exact hr) rfl) p A c (Reads.rd 0 rfl) first second h1 h2 bit).mono fun _ _ ⟨h1, h2⟩ => ⟨h1, h2.below⟩
end Au
end Go.Proofs.Ytakdoijemopejaa

/- Layer 38's law AuthCopies, the walk. No condition but Go's own limits. -/
import Derived.Test.YtakdoijemopejaaAuNew
import Derived.Test.YtakdoijemopejaaAuCopy
set_option linter.unusedSimpArgs false
set_option linter.unusedVariables false
namespace Go.Proofs.Ytakdoijemopejaa
open Go Go.RowKit
namespace Au
open Se (St At Reads Cell)
open Li (v8 v8_one Rd Blk Fr)
open Bv (n8 n16 n32 n64)
variable {w0 w : World} {X : List Nat} {L M : List At}
attribute [local irreducible] Calls
theorem verCopyM {v : Vs} {A : Option Addr} {c g : Nat} (hs : St w0 X (M ++ .blk g 56 (vcl v A c) :: L) w) (hv : v.ok) : Calls Try.prog 17 #[.pointer (some ⟨g, 0, none⟩)] w fun e w' => ∃ g2, e = .returned (.pointer (some ⟨g2, 0, none⟩)) ∧ St w0 X (.blk g2 56 (vcl v A c) :: (M ++ .blk g 56 (vcl v A c) :: L)) w' :=
 (verCopy_st (hs.perm List.perm_middle) hv.n hv.k1).mono fun _ _ ⟨g2, h1, h2⟩ => ⟨g2, h1, h2.perm ((List.perm_middle.symm).cons _)⟩
theorem proCopyM {v : Vs} {A : Option Addr} {c g : Nat} (hs : St w0 X (M ++ .blk g 59 (vcl v A c) :: L) w) (hv : v.ok) : Calls Try.prog 19 #[.pointer (some ⟨g, 0, none⟩)] w fun e w' => ∃ g2, e = .returned (.pointer (some ⟨g2, 0, none⟩)) ∧ St w0 X (.blk g2 59 (vcl v A c) :: (M ++ .blk g 59 (vcl v A c) :: L)) w' :=
 (proCopy_st (hs.perm List.perm_middle) hv.n hv.k1).mono fun _ _ ⟨g2, h1, h2⟩ => ⟨g2, h1, h2.perm ((List.perm_middle.symm).cons _)⟩
set_option maxRecDepth 100000 in
set_option maxHeartbeats 4000000 in
theorem copies_st (hs : St w0 X L w) (p : Pn) (A : Option Addr) (c : Nat) (hr : Reads L A (p.sec.map v8)) (first : Bs) (h1 : first.length = 32) (q : BitVec 16) :
  Calls Try.prog 5 #[.agg (pcl p A c).toArray, .agg (first.map v8).toArray, .int .u16 (n16 q)] w fun e w' => e = .returned (.bool true) ∧ St w0 X L w' := by
 obtain ⟨PL, hPL⟩ : ∃ PL, PL = pcl p A c := ⟨_, rfl⟩
 obtain ⟨m, hm⟩ : ∃ m, m = p.sec.length := ⟨_, rfl⟩
 have P0 := Lib.hid (show PL[0]? = some (.slice A m c) by rw [hPL, hm]; rfl)
 have P1 := Lib.hid (show PL[1]? = some (.string p.hs) by rw [hPL]; rfl)
 have P2 := Lib.hid (show PL[2]? = some (.string p.sb) by rw [hPL]; rfl)
 have PLL := Lib.hid (show PL.length = 3 by rw [hPL]; rfl)
 have hr0 := Lib.hid hr
 obtain ⟨sh, hsh⟩ : ∃ sh, sh = short p := ⟨_, rfl⟩
 have CS : Hid (∀ (L' : List At) (w : World), St w0 X L' w → Calls Try.prog 7 #[.agg PL.toArray] w fun e w' => e = .returned (.bool sh) ∧ St w0 X L' w') := Lib.hid (fun L' w hs => by rw [hPL, hsh]; exact short_st hs p A c)
 obtain ⟨va, hva⟩ : ∃ va, va = valid p.py := ⟨_, rfl⟩
 have HM := Lib.hid hm
 have HSH := Lib.hid hsh
 have HVA := Lib.hid hva
 obtain ⟨F1, hF1⟩ : ∃ F1, F1 = first.map v8 := ⟨_, rfl⟩
 have HF1 := Lib.hid hF1
 have H1 := Lib.hid h1
 rw [← hPL, ← hF1]
 clear hPL hF1 hm hr h1 hsh hva
 cases sh with
 | false =>
  go_enter Try.func5, Try.ntmps5
  go_wp2_with (first | ((with_reducible refine Se.isL (o := ⟨some 21, _, _, _, _, _⟩) ?_); (refine Se.toL rfl (Se.ldw (o := ⟨some 21, _, _, _, _, _⟩) hs rfl rfl ((Reads.blk 1 rfl)) ((by rw [PLL.out]; kernel_rfl)) (by kernel_rfl) ?_))) | ((first | with_reducible refine Se.ab hs ?_ | with_reducible refine Se.abc hs ?_); clear hs; (first | ((fail_if_success (have _q := g3)); generalize w.heap.size = g3; intro w hs) | (generalize w.heap.size = g4; intro w hs))) | (go_at_call 7; refine Calls.mono (CS.out _ _ hs) ?_; clear hs; rintro e w ⟨rfl, hs⟩) | (go_at_call 8; refine Calls.mono (known_st hs) ?_; clear hs; rintro e w ⟨rfl, hs⟩))
  go_ret
  exact ⟨rfl, hs.drop.drop⟩
 | true =>
 cases va with
 | false =>
  have CV : Hid (∀ (L' : List At) (w : World), Reads L' A (p.sec.map v8) → St w0 X L' w → Calls Try.prog 9 #[.slice A m c, .string p.hs, .string p.sb] w fun e w' => e = .returned (.tuple #[.pointer none, .int .i64 2]) ∧ St w0 X L' w') := Lib.hid (fun L' w hr hs => by rw [HM.out]; exact verNewF hs p A c hr HSH.out.symm HVA.out.symm)
  have CP : Hid (∀ (L' : List At) (w : World), Reads L' A (p.sec.map v8) → St w0 X L' w → Calls Try.prog 10 #[.slice A m c, .string p.hs, .string p.sb] w fun e w' => e = .returned (.tuple #[.pointer none, .int .i64 2]) ∧ St w0 X L' w') := Lib.hid (fun L' w hr hs => by rw [HM.out]; exact proNewF hs p A c hr HSH.out.symm HVA.out.symm)
  go_enter Try.func5, Try.ntmps5
  go_wp2_with (first | ((with_reducible refine Se.isL (o := ⟨some 21, _, _, _, _, _⟩) ?_); (refine Se.toL rfl (Se.ldw (o := ⟨some 21, _, _, _, _, _⟩) hs rfl rfl ((Reads.blk 1 rfl)) ((by rw [PLL.out]; kernel_rfl)) (by kernel_rfl) ?_))) | ((with_reducible refine Se.isL (o := ⟨some 27, _, _, _, _, _⟩) ?_); (refine Se.toL rfl (Se.ld (o := ⟨some 27, _, _, _, _, _⟩) hs rfl rfl (Cell.blk 1 rfl P0.out) (by kernel_rfl) ?_))) | ((with_reducible refine Se.isL (o := ⟨some 29, _, _, _, _, _⟩) ?_); (refine Se.toL rfl (Se.ld (o := ⟨some 29, _, _, _, _, _⟩) hs rfl rfl (Cell.blk 1 rfl P1.out) (by kernel_rfl) ?_))) | ((with_reducible refine Se.isL (o := ⟨some 31, _, _, _, _, _⟩) ?_); (refine Se.toL rfl (Se.ld (o := ⟨some 31, _, _, _, _, _⟩) hs rfl rfl (Cell.blk 1 rfl P2.out) (by kernel_rfl) ?_))) | ((with_reducible refine Se.isL (o := ⟨some 37, _, _, _, _, _⟩) ?_); (refine Se.toL rfl (Se.ld (o := ⟨some 37, _, _, _, _, _⟩) hs rfl rfl (Cell.blk 1 rfl P0.out) (by kernel_rfl) ?_))) | ((with_reducible refine Se.isL (o := ⟨some 39, _, _, _, _, _⟩) ?_); (refine Se.toL rfl (Se.ld (o := ⟨some 39, _, _, _, _, _⟩) hs rfl rfl (Cell.blk 1 rfl P1.out) (by kernel_rfl) ?_))) | ((with_reducible refine Se.isL (o := ⟨some 41, _, _, _, _, _⟩) ?_); (refine Se.toL rfl (Se.ld (o := ⟨some 41, _, _, _, _, _⟩) hs rfl rfl (Cell.blk 1 rfl P2.out) (by kernel_rfl) ?_))) | ((first | with_reducible refine Se.ab hs ?_ | with_reducible refine Se.abc hs ?_); clear hs; (first | ((fail_if_success (have _q := g3)); generalize w.heap.size = g3; intro w hs) | (generalize w.heap.size = g4; intro w hs))) | (go_at_call 7; refine Calls.mono (CS.out _ _ hs) ?_; clear hs; rintro e w ⟨rfl, hs⟩) | (go_at_call 9; refine Calls.mono (CV.out _ _ ((hr0.out.cons _).cons _) hs) ?_; clear hs; rintro e w ⟨rfl, hs⟩) | (go_at_call 10; refine Calls.mono (CP.out _ _ ((hr0.out.cons _).cons _) hs) ?_; clear hs; rintro e w ⟨rfl, hs⟩) | (go_at_call 8; refine Calls.mono (known_st hs) ?_; clear hs; rintro e w ⟨rfl, hs⟩))
  go_ret
  exact ⟨rfl, hs.drop.drop⟩
 | true =>
  have CV : Hid (∀ (L' : List At) (w : World), Reads L' A (p.sec.map v8) → St w0 X L' w → Calls Try.prog 9 #[.slice A m c, .string p.hs, .string p.sb] w fun e w' => ∃ g A2 c2, e = .returned (.tuple #[.pointer (some ⟨g, 0, none⟩), .int .i64 0]) ∧ St w0 X (.blk g 56 (vcl { p := p } A2 c2) :: .rd A2 (p.sec.map v8) :: L') w') := Lib.hid (fun L' w hr hs => by rw [HM.out]; exact verNewT hs p A c hr HSH.out.symm HVA.out.symm)
  have CP : Hid (∀ (L' : List At) (w : World), Reads L' A (p.sec.map v8) → St w0 X L' w → Calls Try.prog 10 #[.slice A m c, .string p.hs, .string p.sb] w fun e w' => ∃ g A2 c2, e = .returned (.tuple #[.pointer (some ⟨g, 0, none⟩), .int .i64 0]) ∧ St w0 X (.blk g 59 (vcl { p := p } A2 c2) :: .rd A2 (p.sec.map v8) :: L') w') := Lib.hid (fun L' w hr hs => by rw [HM.out]; exact proNewT hs p A c hr HSH.out.symm HVA.out.symm)
  have K0 := short_ok HSH.out.symm HVA.out.symm
  have K1 := Lib.hid (v1_ok K0 H1.out 9#32 q)
  have K2 := Lib.hid (q1_ok K0 H1.out 9#32 q true)
  have K0 := Lib.hid K0
  go_enter Try.func5, Try.ntmps5
  go_upto_region 4 with (first | ((with_reducible refine Se.isL (o := ⟨some 21, _, _, _, _, _⟩) ?_); (refine Se.toL rfl (Se.ldw (o := ⟨some 21, _, _, _, _, _⟩) hs rfl rfl ((Reads.blk 1 rfl)) ((by rw [PLL.out]; kernel_rfl)) (by kernel_rfl) ?_))) | ((with_reducible refine Se.isL (o := ⟨some 27, _, _, _, _, _⟩) ?_); (refine Se.toL rfl (Se.ld (o := ⟨some 27, _, _, _, _, _⟩) hs rfl rfl (Cell.blk 1 rfl P0.out) (by kernel_rfl) ?_))) | ((with_reducible refine Se.isL (o := ⟨some 29, _, _, _, _, _⟩) ?_); (refine Se.toL rfl (Se.ld (o := ⟨some 29, _, _, _, _, _⟩) hs rfl rfl (Cell.blk 1 rfl P1.out) (by kernel_rfl) ?_))) | ((with_reducible refine Se.isL (o := ⟨some 31, _, _, _, _, _⟩) ?_); (refine Se.toL rfl (Se.ld (o := ⟨some 31, _, _, _, _, _⟩) hs rfl rfl (Cell.blk 1 rfl P2.out) (by kernel_rfl) ?_))) | ((first | with_reducible refine Se.ab hs ?_ | with_reducible refine Se.abc hs ?_); clear hs; (first | ((fail_if_success (have _q := g3)); generalize w.heap.size = g3; intro w hs) | (generalize w.heap.size = g4; intro w hs))) | (go_at_call 7; refine Calls.mono (CS.out _ _ hs) ?_; clear hs; rintro e w ⟨rfl, hs⟩) | (go_at_call 9; refine Calls.mono (CV.out _ _ ((hr0.out.cons _).cons _) hs) ?_; clear hs; rintro e w ⟨gv, Av, cv, rfl, hs⟩))
  go_upto_region 7 with (first | ((with_reducible refine Se.isL (o := ⟨some 37, _, _, _, _, _⟩) ?_); (refine Se.toL rfl (Se.ld (o := ⟨some 37, _, _, _, _, _⟩) hs rfl rfl (Cell.blk 3 rfl P0.out) (by kernel_rfl) ?_))) | ((with_reducible refine Se.isL (o := ⟨some 39, _, _, _, _, _⟩) ?_); (refine Se.toL rfl (Se.ld (o := ⟨some 39, _, _, _, _, _⟩) hs rfl rfl (Cell.blk 3 rfl P1.out) (by kernel_rfl) ?_))) | ((with_reducible refine Se.isL (o := ⟨some 41, _, _, _, _, _⟩) ?_); (refine Se.toL rfl (Se.ld (o := ⟨some 41, _, _, _, _, _⟩) hs rfl rfl (Cell.blk 3 rfl P2.out) (by kernel_rfl) ?_))) | (go_at_call 10; refine Calls.mono (CP.out _ _ ((((hr0.out.cons _).cons _).cons _).cons _) hs) ?_; clear hs; rintro e w ⟨gp, Ap, cp, rfl, hs⟩))
  rw [HF1.out] at hs
  clear CV CP CS
  have L1' := Lib.hid (show (first.map v8).length = 32 by simpa using H1.out)
  go_upto_region 8 with (first | ((with_reducible refine Se.isL (o := ⟨some 54, _, _, _, _, _⟩) ?_); (refine Se.toL rfl (Se.ldw (o := ⟨some 54, _, _, _, _, _⟩) hs rfl rfl ((Reads.blk 4 rfl)) ((by rw [L1'.out]; kernel_rfl)) (by kernel_rfl) ?_))) | (go_at_call 11; refine Calls.mono (chalM (M := [_, _]) (nonce := first) (seq := 9#32) (q := q) hs K0.out H1.out (chal_ok _ _ _ _ (show (0:Nat) < 9 by omega)) (mC_len H1.out _ _)) ?_; clear hs; rintro e w ⟨r1, A1, c1, rfl, hs⟩))
  try simp only [List.cons_append, List.nil_append] at hs
  go_upto_region 9 with (first | ((with_reducible refine Se.isL (o := ⟨some 62, _, _, _, _, _⟩) ?_); (refine Se.toL rfl (Se.ldw (o := ⟨some 62, _, _, _, _, _⟩) hs rfl rfl ((Reads.blk 5 rfl)) ((by rw [L1'.out]; kernel_rfl)) (by kernel_rfl) ?_))) | (go_at_call 12; refine Calls.mono (ansM (M := [_]) (b := mC first 9#32 q) (nonce := first) hs K0.out (by simp) (Reads.own 0 rfl) (mC_len H1.out _ _) (by omega) H1.out (ans_ok p _ _ _ _ true _ rfl H1.out) (mR_len _ _ H1.out _ _ _)) ?_; clear hs; rintro e w ⟨r2, A2, c2, rfl, hs⟩))
  try simp only [List.cons_append, List.nil_append] at hs
  go_wp2_with (first | (go_at_call 17; fail))
  refine Calls.mono (verCopyM (M := [_, _, _, _]) hs K1.out) ?_
  clear hs
  rintro e w ⟨gw, rfl, hs⟩
  try simp only [List.cons_append, List.nil_append] at hs
  go_upto_region 12 with (first | (go_at_call 19; refine Calls.mono (proCopyM (M := [_, _, _]) hs K2.out) ?_; clear hs; rintro e w ⟨gx, rfl, hs⟩))
  try simp only [List.cons_append, List.nil_append] at hs
  go_wp2_with (first | (go_at_call 15; fail))
  refine Calls.mono (checkM (M := [_, _, _, _, _, _]) (b := mR p first first 9#32 q true) hs K1.out (by simp [v1]) (Reads.own 2 rfl) (mR_len _ _ H1.out _ _ _) (by omega) (check_ok p _ _ _ _ true _ rfl rfl rfl rfl H1.out H1.out) (mS_len _ _ _ _ _)) ?_
  clear hs
  rintro e w ⟨r3, A3, c3, rfl, hs⟩
  try simp only [List.cons_append, List.nil_append] at hs
  go_upto_region 15 with (first | (go_at_call 16; refine Calls.mono (finM (M := [_, _, _, _, _]) (b := mS p first 9#32 q true) hs K2.out (by simp [q1]) (Reads.own 0 rfl) (mS_len _ _ _ _ _) (by omega) (fin_ok p _ _ _ true _ rfl rfl rfl rfl H1.out)) ?_; clear hs; rintro e w ⟨rfl, hs⟩) | (go_at_call 13; refine Calls.mono (verDoneM (M := [_, _]) hs K1.out.n (d := false) rfl) ?_; clear hs; rintro e w ⟨rfl, hs⟩) | (go_at_call 14; refine Calls.mono (proDoneM (M := [_]) hs K2.out.n (d := false) rfl) ?_; clear hs; rintro e w ⟨rfl, hs⟩))
  try simp only [List.cons_append, List.nil_append] at hs
  go_upto_region 16 with (first | (go_at_call 15; refine Calls.mono (checkM (M := [_, _]) (b := mR p first first 9#32 q true) hs K1.out (by simp [v1]) (Reads.own 2 rfl) (mR_len _ _ H1.out _ _ _) (by omega) (check_ok p _ _ _ _ true _ rfl rfl rfl rfl H1.out H1.out) (mS_len _ _ _ _ _)) ?_; clear hs; rintro e w ⟨r4, A4, c4, rfl, hs⟩))
  try simp only [List.cons_append, List.nil_append] at hs
  go_wp2_with (first | (go_at_call 20; refine Calls.mono (same_st hs (Reads.own 0 rfl) (Reads.own 1 rfl) (mS_len p first 9#32 q true) (mS_len p first 9#32 q true) rfl) ?_; rintro e w' ⟨rfl, rfl⟩) | (go_at_call 16; refine Calls.mono (finM (M := [_, _]) (b := mS p first 9#32 q true) hs K2.out (by simp [q1]) (Reads.own 0 rfl) (mS_len _ _ _ _ _) (by omega) (fin_ok p _ _ _ true _ rfl rfl rfl rfl H1.out)) ?_; clear hs; rintro e w ⟨rfl, hs⟩) | (go_at_call 13; refine Calls.mono (verDoneM (M := [_, _, _]) hs K1.out.n (d := true) rfl) ?_; clear hs; rintro e w ⟨rfl, hs⟩) | (go_at_call 14; refine Calls.mono (proDoneM (M := [_, _]) hs K2.out.n (d := true) rfl) ?_; clear hs; rintro e w ⟨rfl, hs⟩) | (go_at_call 8; refine Calls.mono (known_st hs) ?_; clear hs; rintro e w ⟨rfl, hs⟩))
  go_ret
  exact ⟨rfl, hs.drop.drop.drop.drop.drop.drop.drop.drop.drop.drop.drop.drop⟩
theorem copies_any (W : World) {p : Pn} {A : Option Addr} {c : Nat} (hr : Rd W A (p.sec.map v8)) {first : Bs} (h1 : first.length = 32) (q : BitVec 16) :
  Calls Try.prog 5 #[.agg (pcl p A c).toArray, .agg (first.map v8).toArray, .int .u16 (n16 q)] W fun e w' => e = .returned (.bool true) ∧ Below W.heap.size W w' :=
 (copies_st (St.start (L := [.rd A (p.sec.map v8)]) W (fun a ha => by rw [List.mem_singleton.1 ha]; exact hr) rfl) p A c (Reads.rd 0 rfl) first h1 q).mono fun _ _ ⟨h1, h2⟩ => ⟨h1, h2.below⟩
end Au
end Go.Proofs.Ytakdoijemopejaa

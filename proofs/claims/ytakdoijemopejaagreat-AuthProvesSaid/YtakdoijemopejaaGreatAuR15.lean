/- Layer 38's law AuthVerifies, the walk. No condition but Go's own limits. -/
import Derived.Test.YtakdoijemopejaaGreatAuRg
set_option linter.unusedSimpArgs false
set_option linter.unusedVariables false
namespace Go.Proofs.YtakdoijemopejaaGreat
open Go Go.RowKit
namespace Au
open Se (St At Reads Cell)
open Li (v8 v8_one Rd Blk Fr)
open Bv (n8 n16 n32 n64)
variable {w0 w : World} {X : List Nat} {L M : List At}
attribute [local irreducible] Calls
theorem rvc_38 {v : Vs} (h : v.n.length = 32) (A : Option Addr) (c : Nat) : (rvc v A c)[38]? = some (.bool v.d) := by
 unfold rvc
 rw [List.getElem?_append_right (by simp [pcl, h])]
 simp [pcl, h]
theorem sameM (hs : St w0 X L w) {A B : Option Addr} {n c d : Nat} {m : Bs} (hn : n = m.length) (hA : Reads L A (m.map v8)) (hB : Reads L B (m.map v8)) : Calls Tryz.prog 12 #[.slice A n c, .slice B n d] w fun e w' => e = .returned (.bool true) ∧ St w0 X L w' :=
 (same_st hs hA hB hn hn rfl).mono fun _ _ ⟨h, e⟩ => ⟨h, e ▸ hs⟩
set_option maxRecDepth 100000 in
set_option maxHeartbeats 4000000 in
theorem verifies_st (hs : St w0 X L w) (p : Pn) (A : Option Addr) (c : Nat) (hr : .rd A (p.sec.map v8) ∈ L) {LA : Option Addr} {n ca : Nat} {R : List (List Value)} {xs : List Ac} (hn : n = xs.length) (hA : Reads L LA R.flatten) (hS : AS L R xs) :
  Calls Tryz.prog 3 #[.agg (pcl p A c).toArray, .slice LA n ca] w fun e w' => e = .returned (.bool true) ∧ St w0 X L w' := by
 obtain ⟨PL, hPL⟩ : ∃ PL, PL = pcl p A c := ⟨_, rfl⟩
 obtain ⟨m, hm⟩ : ∃ m, m = p.sec.length := ⟨_, rfl⟩
 obtain ⟨SV, hSV⟩ : ∃ SV, SV = p.sec.map v8 := ⟨_, rfl⟩
 obtain ⟨va, hva⟩ : ∃ va, va = valid p.py := ⟨_, rfl⟩
 obtain ⟨sh, hsh⟩ : ∃ sh, sh = short p := ⟨_, rfl⟩
 have P0 := Lib.hid (show PL[0]? = some (.slice A m c) by rw [hPL, hm]; rfl)
 have P1 := Lib.hid (show PL[1]? = some (.string p.hs) by rw [hPL]; rfl)
 have P2 := Lib.hid (show PL[2]? = some (.string p.sb) by rw [hPL]; rfl)
 have PLL := Lib.hid (show PL.length = 3 by rw [hPL]; rfl)
 have CS : Hid (∀ (L' : List At) (w : World), St w0 X L' w → Calls Tryz.prog 6 #[.agg PL.toArray] w fun e w' => e = .returned (.bool sh) ∧ St w0 X L' w') := Lib.hid (fun L' w hs => by rw [hPL, hsh]; exact short_st hs p A c)
 have HB : Hid (sh = true → m ≤ 80 ∧ p.hs.size ≤ 240 ∧ p.sb.size ≤ 240) := Lib.hid (fun h => by
  rw [hsh] at h
  simp only [short, Bool.and_eq_true, decide_eq_true_eq] at h
  exact ⟨by rw [hm]; exact h.1.1, h.1.2, h.2⟩)
 have CV : Hid (sh = true → ∀ (L' : List At) (w : World), St w0 X L' w → Calls Tryz.prog 9 #[.agg PL.toArray] w fun e w' => e = .returned (.bool va) ∧ St w0 X L' w') := Lib.hid (fun h L' w hs => by rw [hPL, hva]; exact rvalid_st hs p A c (HB.out h).2.1 (HB.out h).2.2)
 have HPL := Lib.hid hPL
 have HM := Lib.hid hm
 have HSV := Lib.hid hSV
 have HVA := Lib.hid hva
 have HSH := Lib.hid hsh
 have HN := Lib.hid hn
 have hr0 := Lib.hid hr
 have C1 : Hid (∀ (i : Nat) (hi : i < xs.length) (w : World), (∀ a ∈ L, a.holds w) → ∃ PC B c, Hid (PC = ac xs[i] B c) ∧ Hid (xs[i].N.length = 32) ∧ Hid (Reads L B (xs[i].b.map v8)) ∧ ∃ g o, LA = some ⟨g, o, none⟩ ∧ Hid (Reads L (some ⟨g, o + i * 37, none⟩) PC)) := Lib.hid (fun i hi w hw => by
  obtain ⟨PC, B, c, h1, h4, h2, h3⟩ := hS.row hi
  obtain ⟨g, o, hg, _, _⟩ := (hA w hw).cells (hS.ne hi)
  exact ⟨PC, B, c, Lib.hid h1, Lib.hid h4, Lib.hid h2, g, o, hg, Lib.hid (h3 g o (hg ▸ hA))⟩)
 rw [← hPL]
 clear hPL hm hSV hva hsh hn hr hA hS
 cases sh with
 | false =>
  go_enter Tryz.func3, Tryz.ntmps3
  go_wp2_with (first | ((with_reducible refine Se.isL (o := ⟨some 22, _, _, _, _, _⟩) ?_); (refine Se.toL rfl (Se.ldw (o := ⟨some 22, _, _, _, _, _⟩) hs rfl rfl ((Reads.blk 0 rfl)) ((by rw [PLL.out]; kernel_rfl)) (by kernel_rfl) ?_))) | ((first | with_reducible refine Se.ab hs ?_ | with_reducible refine Se.abc hs ?_); clear hs; (first | (generalize w.heap.size = g2; intro w hs))) | (go_at_call 6; refine Calls.mono (CS.out _ _ hs) ?_; clear hs; rintro e w ⟨rfl, hs⟩) | (go_at_call 7; refine Calls.mono (known_st hs) ?_; clear hs; rintro e w ⟨rfl, hs⟩))
  go_ret
  exact ⟨rfl, hs.drop⟩
 | true =>
 by_cases h20 : 20 < n
 ·have d1 : decide ((20 : Int) < (n : Int)) = true := by simp; omega
  clear h20
  go_enter Tryz.func3, Tryz.ntmps3
  go_wp2_with (first | ((with_reducible refine Se.isL (o := ⟨some 22, _, _, _, _, _⟩) ?_); (refine Se.toL rfl (Se.ldw (o := ⟨some 22, _, _, _, _, _⟩) hs rfl rfl ((Reads.blk 0 rfl)) ((by rw [PLL.out]; kernel_rfl)) (by kernel_rfl) ?_))) | ((first | with_reducible refine Se.ab hs ?_ | with_reducible refine Se.abc hs ?_); clear hs; (first | (generalize w.heap.size = g2; intro w hs))) | (go_at_call 6; refine Calls.mono (CS.out _ _ hs) ?_; clear hs; rintro e w ⟨rfl, hs⟩) | (go_at_call 7; refine Calls.mono (known_st hs) ?_; clear hs; rintro e w ⟨rfl, hs⟩))
  go_ret
  exact ⟨rfl, hs.drop⟩
 have d20 : decide ((20 : Int) < (n : Int)) = false := by simp; omega
 have H20 := Lib.hid (show n ≤ 20 by omega)
 clear h20
 have CV1 := Lib.hid (CV.out rfl)
 clear CV
 cases va with
 | false =>
  have CN : Hid (∀ (L' : List At) (w : World), Reads L' A (p.sec.map v8) → St w0 X L' w → Calls Tryz.prog 8 #[.slice A m c, .string p.hs, .string p.sb] w fun e w' => e = .returned (.tuple #[.pointer none, .int .i64 2]) ∧ St w0 X L' w') := Lib.hid (fun L' w hr hs => by rw [HM.out]; exact verNewF hs p A c hr HSH.out.symm HVA.out.symm)
  go_enter Tryz.func3, Tryz.ntmps3
  go_wp2_with (first | ((with_reducible refine Se.isL (o := ⟨some 22, _, _, _, _, _⟩) ?_); (refine Se.toL rfl (Se.ldw (o := ⟨some 22, _, _, _, _, _⟩) hs rfl rfl ((Reads.blk 0 rfl)) ((by rw [PLL.out]; kernel_rfl)) (by kernel_rfl) ?_))) | ((with_reducible refine Se.isL (o := ⟨some 33, _, _, _, _, _⟩) ?_); (refine Se.toL rfl (Se.ld (o := ⟨some 33, _, _, _, _, _⟩) hs rfl rfl (Cell.blk 0 rfl P0.out) (by kernel_rfl) ?_))) | ((with_reducible refine Se.isL (o := ⟨some 35, _, _, _, _, _⟩) ?_); (refine Se.toL rfl (Se.ld (o := ⟨some 35, _, _, _, _, _⟩) hs rfl rfl (Cell.blk 0 rfl P1.out) (by kernel_rfl) ?_))) | ((with_reducible refine Se.isL (o := ⟨some 37, _, _, _, _, _⟩) ?_); (refine Se.toL rfl (Se.ld (o := ⟨some 37, _, _, _, _, _⟩) hs rfl rfl (Cell.blk 0 rfl P2.out) (by kernel_rfl) ?_))) | ((with_reducible refine Se.isL (o := ⟨some 41, _, _, _, _, _⟩) ?_); (refine Se.toL rfl (Se.ldw (o := ⟨some 41, _, _, _, _, _⟩) hs rfl rfl ((Reads.blk 0 rfl)) ((by rw [PLL.out]; kernel_rfl)) (by kernel_rfl) ?_))) | ((first | with_reducible refine Se.ab hs ?_ | with_reducible refine Se.abc hs ?_); clear hs; (first | (generalize w.heap.size = g2; intro w hs))) | (go_at_call 6; refine Calls.mono (CS.out _ _ hs) ?_; clear hs; rintro e w ⟨rfl, hs⟩) | (go_at_call 8; refine Calls.mono (CN.out _ _ ((Reads.rdm hr0.out).cons _) hs) ?_; clear hs; rintro e w ⟨rfl, hs⟩) | (go_at_call 9; refine Calls.mono (CV1.out _ _ hs) ?_; clear hs; rintro e w ⟨rfl, hs⟩) | (go_at_call 7; refine Calls.mono (known_st hs) ?_; clear hs; rintro e w ⟨rfl, hs⟩))
  go_ret
  exact ⟨rfl, hs.drop⟩
 | true =>
  have HB1 := Lib.hid (HB.out rfl)
  obtain ⟨R0, hR0⟩ : ∃ R0, R0 = rvc { p := p } A c := ⟨_, rfl⟩
  obtain ⟨Z, hZ⟩ : ∃ Z, Z = rvc { p := ⟨[], ⟨#[]⟩, ⟨#[]⟩⟩ } none 0 := ⟨_, rfl⟩
  obtain ⟨ZA, hZA⟩ : ∃ ZA, ZA = acl 0 z32 0#32 0#16 none 0 0 false := ⟨_, rfl⟩
  have aI := Lib.hid rvI
  have aA := Lib.hid actI
  rw [← hZ] at aI
  rw [← hZA] at aA
  have ZL := Lib.hid (show Z.length = 39 by rw [hZ]; exact rvc_len rfl _ _)
  have ZAL := Lib.hid (show ZA.length = 37 by rw [hZA]; rfl)
  have R0L := Lib.hid (show R0.length = 39 by rw [hR0]; exact rvc_len rfl _ _)
  have R0O := Lib.hid (show ∀ x ∈ R0, x.oneCell' = true by rw [hR0]; exact rvc_one _ _ _)
  have HR0 := Lib.hid hR0
  have HV0 := Lib.hid (show ({ p := p } : Vs).ok ∧ ({ p := p } : Vs).p = p from ⟨valid_ok HVA.out.symm HB1.out.2.1 HB1.out.2.2, rfl⟩)
  have BV := Lib.hid (show ∀ w : World, (Instr.build 36 #[(0, .agg PL.toArray)]).run Tryz.prog w = .ok (.agg R0.toArray) w by rw [HPL.out, hR0]; exact rvc_new p A c)
  obtain ⟨Q0, hQ0⟩ : ∃ Q0, Q0 = rps { p := p } ⟨#[]⟩ A c := ⟨_, rfl⟩
  have BQ := Lib.hid (show ∀ w : World, (Instr.build 46 #[(0, .agg PL.toArray)]).run Tryz.prog w = .ok (.agg Q0.toArray) w by rw [HPL.out, hQ0]; exact rps_new p A c)
  have HQ0 := Lib.hid hQ0
  have CN : Hid (∀ (L' : List At) (w : World), Reads L' A (p.sec.map v8) → St w0 X L' w → Calls Tryz.prog 8 #[.slice A m c, .string p.hs, .string p.sb] w fun e w' => ∃ g A2 c2, e = .returned (.tuple #[.pointer (some ⟨g, 0, none⟩), .int .i64 0]) ∧ St w0 X (.blk g 69 (vcl { p := p } A2 c2) :: .rd A2 SV :: L') w') := Lib.hid (fun L' w hr hs => by rw [HM.out, HSV.out]; exact verNewT hs p A c hr HSH.out.symm HVA.out.symm)
  have HVP := Lib.hid (show ({ p := p } : Vs).ok from HV0.out.1)
  clear hR0 hZ hZA hQ0 HSH HVA HB
  go_enter Tryz.func3, Tryz.ntmps3
  go_upto_region 7 with (first | ((with_reducible refine Se.isL (o := ⟨some 22, _, _, _, _, _⟩) ?_); (refine Se.toL rfl (Se.ldw (o := ⟨some 22, _, _, _, _, _⟩) hs rfl rfl ((Reads.blk 0 rfl)) ((by rw [PLL.out]; kernel_rfl)) (by kernel_rfl) ?_))) | ((with_reducible refine Se.isL (o := ⟨some 33, _, _, _, _, _⟩) ?_); (refine Se.toL rfl (Se.ld (o := ⟨some 33, _, _, _, _, _⟩) hs rfl rfl (Cell.blk 0 rfl P0.out) (by kernel_rfl) ?_))) | ((with_reducible refine Se.isL (o := ⟨some 35, _, _, _, _, _⟩) ?_); (refine Se.toL rfl (Se.ld (o := ⟨some 35, _, _, _, _, _⟩) hs rfl rfl (Cell.blk 0 rfl P1.out) (by kernel_rfl) ?_))) | ((with_reducible refine Se.isL (o := ⟨some 37, _, _, _, _, _⟩) ?_); (refine Se.toL rfl (Se.ld (o := ⟨some 37, _, _, _, _, _⟩) hs rfl rfl (Cell.blk 0 rfl P2.out) (by kernel_rfl) ?_))) | ((with_reducible refine Se.isL (o := ⟨some 41, _, _, _, _, _⟩) ?_); (refine Se.toL rfl (Se.ldw (o := ⟨some 41, _, _, _, _, _⟩) hs rfl rfl ((Reads.blk 2 rfl)) ((by rw [PLL.out]; kernel_rfl)) (by kernel_rfl) ?_))) | ((with_reducible refine Se.isL (o := ⟨some 53, _, _, _, _, _⟩) ?_); (refine Se.toL rfl (Se.ldw (o := ⟨some 53, _, _, _, _, _⟩) hs rfl rfl ((Reads.blk 2 rfl)) ((by rw [PLL.out]; kernel_rfl)) (by kernel_rfl) ?_))) | ((with_reducible refine Se.isL (o := ⟨some 54, _, _, _, _, _⟩) ?_); (refine Se.toL rfl (Se.bd (o := ⟨some 54, _, _, _, _, _⟩) rfl rfl (BV.out _) ?_))) | ((with_reducible refine Se.isL (o := ⟨some 7, _, _, _, _, _⟩) ?_); (refine Se.toL rfl (Se.al (o := ⟨some 7, _, _, _, _, _⟩) hs rfl (aI.out) ?_); clear hs; rintro w g7 - hs)) | ((with_reducible refine Se.isL (o := ⟨none, _, _, _, _, _⟩) ?_); (refine Se.toL rfl (Se.sow 0 hs rfl rfl rfl rfl (R0O.out) ((by rw [R0L.out]; kernel_rfl)) ((by rw [R0L.out, ZL.out])) ?_); clear hs; intro w hs; try simp only [List.cons_append, List.nil_append, List.set_cons_zero] at hs)) | ((first | with_reducible refine Se.ab hs ?_ | with_reducible refine Se.abc hs ?_); clear hs; (first | (generalize w.heap.size = g2; intro w hs))) | (go_at_call 6; refine Calls.mono (CS.out _ _ hs) ?_; clear hs; rintro e w ⟨rfl, hs⟩) | (go_at_call 8; refine Calls.mono (CN.out _ _ ((Reads.rdm hr0.out).cons _) hs) ?_; clear hs; rintro e w ⟨gV, A2, c2, rfl, hs⟩) | (go_at_call 9; refine Calls.mono (CV1.out _ _ hs) ?_; clear hs; rintro e w ⟨rfl, hs⟩))
  clear CS CV1 CN P0 P1 P2 BV d20
  replace hs := (hs.nil_own 1 none).own_rd
  replace hs := hs.pull 4 rfl
  replace hs := hs.pull 4 rfl
  replace hs := hs.pull 2 rfl
  replace hs := hs.pull 3 rfl
  replace hs := hs.pull 4 rfl
  simp only [List.eraseIdx_cons_succ, List.eraseIdx_cons_zero] at hs
  go_wp2_with fail
  go_loopg [8, 9] n (fun gh s8 s9 wr => ∃ (i : Nat) (v : Vs) (RV : List Value) (lA : Option Addr) (lc : Nat) (last : Bs), gh = n - i ∧ i ≤ n ∧ s8 = .slice lA last.length lc ∧ s9 = .int .i64 (i : Int) ∧ Hid (v.ok ∧ v.p = p) ∧ Hid (RV = rvc v A c) ∧ Hid (last.length ≤ 40) ∧ St w0 X (.blk gV 69 (vcl v A2 c2) :: .blk g7 36 RV :: .rd lA (last.map v8) :: .rd A2 SV :: .blk g2 24 PL :: L) wr)
  case atStart => exact ⟨0, { p := p }, R0, none, 0, [], rfl, Nat.zero_le _, rfl, rfl, Lib.hid ⟨HV0.out.1, rfl⟩, HR0, Lib.hid (Nat.zero_le _), hs⟩
  case round =>
   clear hs HR0 R0L R0O HV0
   rename World => w
   obtain ⟨i, v, RV, lA, lc, last, rfl, hi, rfl, rfl, HV, HRV, HLL, hs⟩ := hrel
   by_cases hlt : i < n
   ·have hlt' : (i : Int) < (n : Int) := by omega
    have hil : i < xs.length := by have := HN.out; omega
    obtain ⟨PC, B, bc, HPC, HNL, HBR, ga, oa, rfl, HRP⟩ := C1.out i hil w (fun a ha => hs.hold a (by simp [ha]))
    obtain ⟨x, hx⟩ : ∃ x, xs[i] = x := ⟨_, rfl⟩
    rw [hx] at HPC HNL HBR
    obtain ⟨nb, hnb⟩ : ∃ nb, nb = x.b.length := ⟨_, rfl⟩
    obtain ⟨NV, hNV⟩ : ∃ NV, NV = x.N.map v8 := ⟨_, rfl⟩
    obtain ⟨k, hk⟩ : ∃ k, k = x.k := ⟨_, rfl⟩
    obtain ⟨sq, hsq⟩ : ∃ sq, sq = n32 x.s := ⟨_, rfl⟩
    obtain ⟨qq, hqq⟩ : ∃ qq, qq = n16 x.q := ⟨_, rfl⟩
    obtain ⟨bo, hbo⟩ : ∃ bo, bo = x.both := ⟨_, rfl⟩
    have hacl := acl_33 (kind := x.k) HNL.out (seq := x.s) (q := x.q) (B := B) (n := x.b.length) (c := bc) (both := x.both)
    have PCL := Lib.hid (show PC.length = 37 by rw [HPC.out]; exact hacl.2.2.2.2.1)
    have PCO := Lib.hid (show ∀ x ∈ PC, x.oneCell' = true by rw [HPC.out]; exact acl_one _ _ _ _ _ _ _ _)
    have K0 := Lib.hid (show PC[0]? = some (.int .i64 k) by rw [HPC.out, hk]; rfl)
    have K33 := Lib.hid (show PC[33]? = some (.int .u32 sq) by rw [HPC.out, hsq]; exact hacl.1)
    have K34 := Lib.hid (show PC[34]? = some (.int .u16 qq) by rw [HPC.out, hqq]; exact hacl.2.1)
    have K35 := Lib.hid (show PC[35]? = some (.slice B nb bc) by rw [HPC.out, hnb]; exact hacl.2.2.1)
    have K36 := Lib.hid (show PC[36]? = some (.bool bo) by rw [HPC.out, hbo]; exact hacl.2.2.2.1)
    have NL := Lib.hid (show NV.length = 32 by rw [hNV]; simpa using HNL.out)
    have RN := Lib.hid (show ∀ (L' : List At) (g : Nat), Reads (.blk g 38 PC :: L') (some ⟨g, 1, none⟩) NV by
     intro L' g
     have h := ((Reads.blk (L := .blk g 38 PC :: L') 0 rfl).at 1).take 32
     rw [HPC.out] at h
     unfold ac at h
     rw [hacl.2.2.2.2.2, ← hNV, Nat.zero_add] at h
     rw [HPC.out]
     exact h)
    have RVL := Lib.hid (show RV.length = 39 by rw [HRV.out]; exact rvc_len HV.out.1.n _ _)
    have HNB := Lib.hid hnb
    have HNV := Lib.hid hNV
    have HSQ := Lib.hid hsq
    have HQQ := Lib.hid hqq
    have HBO := Lib.hid hbo
    clear hacl hnb hNV hk hsq hqq hbo HPC
    go_upto_region 11 with (first | ((with_reducible refine Se.isL (o := ⟨some 68, _, _, _, _, _⟩) ?_); (refine Se.toL rfl (Se.ldw (o := ⟨some 68, _, _, _, _, _⟩) hs rfl rfl ((HRP.out.app [_, _, _, _, _])) ((by rw [PCL.out]; kernel_rfl)) (by kernel_rfl) ?_))) | ((with_reducible refine Se.isL (o := ⟨some 10, _, _, _, _, _⟩) ?_); (refine Se.toL rfl (Se.al (o := ⟨some 10, _, _, _, _, _⟩) hs rfl (aA.out) ?_); clear hs; rintro w g10 - hs)) | ((with_reducible refine Se.isL (o := ⟨none, _, _, _, _, _⟩) ?_); (refine Se.toL rfl (Se.sow 0 hs rfl rfl rfl rfl (PCO.out) ((by rw [PCL.out]; kernel_rfl)) ((by rw [PCL.out, ZAL.out])) ?_); clear hs; intro w hs; try simp only [List.cons_append, List.nil_append, List.set_cons_zero] at hs)))
    clear HRP
    by_cases h100 : 100 < nb
    ·have d1 : decide ((100 : Int) < (nb : Int)) = true := by simp; omega
     clear h100
     go_wp2_with (first | ((with_reducible refine Se.isL (o := ⟨some 70, _, _, _, _, _⟩) ?_); (refine Se.toL rfl (Se.ld (o := ⟨some 70, _, _, _, _, _⟩) hs rfl rfl (Cell.blk 0 rfl K35.out) (by kernel_rfl) ?_))) | (go_at_call 7; refine Calls.mono (known_st hs) ?_; clear hs; rintro e w ⟨rfl, hs⟩))
     go_ret
     exact ⟨rfl, hs.drop.drop.drop.drop.drop.drop⟩
    have d100 : decide ((100 : Int) < (nb : Int)) = false := by simp; omega
    have H100 := Lib.hid (show nb ≤ 100 by omega)
    clear h100
    go_upto_if 76 with (first | ((with_reducible refine Se.isL (o := ⟨some 70, _, _, _, _, _⟩) ?_); (refine Se.toL rfl (Se.ld (o := ⟨some 70, _, _, _, _, _⟩) hs rfl rfl (Cell.blk 0 rfl K35.out) (by kernel_rfl) ?_))) | ((with_reducible refine Se.isL (o := ⟨some 75, _, _, _, _, _⟩) ?_); (refine Se.toL rfl (Se.ld (o := ⟨some 75, _, _, _, _, _⟩) hs rfl rfl (Cell.blk 0 rfl K0.out) (by kernel_rfl) ?_))))
    clear d100
    go_cut [8] (fun s8 wx => ∃ (v' : Vs) (RV' : List Value) (lA' : Option Addr) (lc' : Nat) (last' : Bs), s8 = .slice lA' last'.length lc' ∧ Hid (v'.ok ∧ v'.p = p) ∧ Hid (RV' = rvc v' A c) ∧ Hid (last'.length ≤ 40) ∧ St w0 X (.blk gV 69 (vcl v' A2 c2) :: .blk g7 36 RV' :: .rd lA' (last'.map v8) :: .rd A2 SV :: .blk g2 24 PL :: L) wx)
    case first =>
     by_cases hk0 : k = 0
     ·have dk : (k == 0) = true := by rw [hk0]; rfl
      obtain ⟨v', m', E, he⟩ : ∃ v' m' E, chalS v x.N x.s x.q = (v', m', E) := ⟨_, _, _, rfl⟩
      have hkp := chal_kp HV.out.1 HNL.out he
      have HKP := Lib.hid (show v'.ok ∧ v'.p = p from ⟨hkp.1.1, hkp.1.2.trans HV.out.2⟩)
      have HML := Lib.hid hkp.2
      have CC : Hid (∀ w, St w0 X (.blk g10 38 PC :: .blk gV 69 (vcl v A2 c2) :: .blk g7 36 RV :: .rd lA (last.map v8) :: .rd A2 SV :: .blk g2 24 PL :: L) w → Calls Tryz.prog 10 #[.pointer (some ⟨gV, 0, none⟩), .agg NV.toArray, .int .u32 sq, .int .u16 qq] w fun e w' => MsgM w0 X [.blk g10 38 PC] (.blk g7 36 RV :: .rd lA (last.map v8) :: .rd A2 SV :: .blk g2 24 PL :: L) gV 69 A2 c2 v' m' m'.length E e w') := Lib.hid (fun w hs => by
       rw [HNV.out, HSQ.out, HQQ.out]
       exact chalM (M := [_]) hs HV.out.1 HNL.out he rfl)
      have CR : Hid (∀ (L' : List At) (w : World), St w0 X L' w → Calls Tryz.prog 11 #[.agg RV.toArray, .agg NV.toArray, .int .u32 sq, .int .u16 qq] w fun e w' => RVer w0 X L' A c v' m' E e w') := Lib.hid (fun L' w hs => by
       rw [HRV.out, HNV.out, HSQ.out, HQQ.out]
       exact rchalM hs A c HV.out.1.n x.N HNL.out x.s x.q he)
      clear hk0 he hkp
      go_upto_region 16 with (first | ((with_reducible refine Se.isL (o := ⟨some 80, _, _, _, _, _⟩) ?_); (refine Se.toL rfl (Se.ldw (o := ⟨some 80, _, _, _, _, _⟩) hs rfl rfl ((RN.out _ _)) ((by rw [NL.out]; kernel_rfl)) (by kernel_rfl) ?_))) | ((with_reducible refine Se.isL (o := ⟨some 82, _, _, _, _, _⟩) ?_); (refine Se.toL rfl (Se.ld (o := ⟨some 82, _, _, _, _, _⟩) hs rfl rfl (Cell.blk 0 rfl K33.out) (by kernel_rfl) ?_))) | ((with_reducible refine Se.isL (o := ⟨some 84, _, _, _, _, _⟩) ?_); (refine Se.toL rfl (Se.ld (o := ⟨some 84, _, _, _, _, _⟩) hs rfl rfl (Cell.blk 0 rfl K34.out) (by kernel_rfl) ?_))) | ((with_reducible refine Se.isL (o := ⟨some 89, _, _, _, _, _⟩) ?_); (refine Se.toL rfl (Se.ldw (o := ⟨some 89, _, _, _, _, _⟩) hs rfl rfl ((Reads.blk 3 rfl)) ((by rw [RVL.out]; kernel_rfl)) (by kernel_rfl) ?_))) | ((with_reducible refine Se.isL (o := ⟨some 91, _, _, _, _, _⟩) ?_); (refine Se.toL rfl (Se.ldw (o := ⟨some 91, _, _, _, _, _⟩) hs rfl rfl (((RN.out _ _).app [_])) ((by rw [NL.out]; kernel_rfl)) (by kernel_rfl) ?_))) | ((with_reducible refine Se.isL (o := ⟨some 93, _, _, _, _, _⟩) ?_); (refine Se.toL rfl (Se.ld (o := ⟨some 93, _, _, _, _, _⟩) hs rfl rfl (Cell.blk 1 rfl K33.out) (by kernel_rfl) ?_))) | ((with_reducible refine Se.isL (o := ⟨some 95, _, _, _, _, _⟩) ?_); (refine Se.toL rfl (Se.ld (o := ⟨some 95, _, _, _, _, _⟩) hs rfl rfl (Cell.blk 1 rfl K34.out) (by kernel_rfl) ?_))) | ((with_reducible refine Se.isL (o := ⟨some 13, _, _, _, _, _⟩) ?_); (refine Se.toL rfl (Se.al (o := ⟨some 13, _, _, _, _, _⟩) hs rfl (aI.out) ?_); clear hs; rintro w g13 - hs)) | ((with_reducible refine Se.isL (o := ⟨none, _, _, _, _, _⟩) ?_); (refine Se.toL rfl (Se.sow 0 hs rfl rfl rfl rfl ((by rw [HRV2.out]; exact rvc_one _ _ _)) ((by rw [HRV2.out, rvc_len HKP.out.1.n]; kernel_rfl)) ((by rw [HRV2.out, rvc_len HKP.out.1.n, ZL.out])) ?_); clear hs; intro w hs; try simp only [List.cons_append, List.nil_append, List.set_cons_zero] at hs)) | (go_at_call 10; refine Calls.mono (CC.out _ hs) ?_; clear hs; rintro e w ⟨r3, A3, c3, rfl, hs⟩) | (go_at_call 11; refine Calls.mono (CR.out _ _ hs) ?_; clear hs; rintro e w ⟨r4, B4, c4, RV2, HRV2, rfl, hcap, hs⟩))
      have RV2L := Lib.hid (show RV2.length = 39 by rw [HRV2.out]; exact rvc_len HKP.out.1.n _ _)
      have RV2O := Lib.hid (show ∀ x ∈ RV2, x.oneCell' = true by rw [HRV2.out]; exact rvc_one _ _ _)
      clear CC CR
      go_upto_region 17 with (first | ((with_reducible refine Se.isL (o := ⟨some 100, _, _, _, _, _⟩) ?_); (refine Se.toL rfl (Se.ldw (o := ⟨some 100, _, _, _, _, _⟩) hs rfl rfl ((Reads.blk 0 rfl)) ((by rw [RV2L.out]; kernel_rfl)) (by kernel_rfl) ?_))) | ((with_reducible refine Se.isL (o := ⟨none, _, _, _, _, _⟩) ?_); (refine Se.toL rfl (Se.sow 5 hs rfl rfl rfl rfl (RV2O.out) ((by rw [RV2L.out]; kernel_rfl)) ((by rw [RV2L.out, RVL.out])) ?_); clear hs; intro w hs; try simp only [List.cons_append, List.nil_append, List.set_cons_zero, List.set_cons_succ] at hs)))
      by_cases hE : E = 0
      ·have dE : ((E : Int) == 0) = true := by rw [hE]; rfl
       clear hE
       go_wp2_with (first | (go_at_call 12; refine Calls.mono (sameM hs rfl (Reads.own 2 rfl) (Reads.own 1 rfl)) ?_; clear hs; rintro e w ⟨rfl, hs⟩))
       go_meet
       replace hs := (hs.pull 1 rfl).own_rd
       simp only [List.eraseIdx_cons_succ, List.eraseIdx_cons_zero] at hs
       replace hs := hs.pull 6 rfl
       replace hs := hs.pull 4 rfl
       replace hs := hs.pull 4 rfl
       replace hs := hs.pull 4 rfl
       replace hs := hs.pull 8 rfl
       replace hs := hs.pull 8 rfl
       replace hs := hs.pull 6 rfl
       replace hs := hs.pull 8 rfl
       replace hs := hs.pull 8 rfl
       simp only [List.eraseIdx_cons_succ, List.eraseIdx_cons_zero] at hs
       refine ⟨v', RV2, B4, c4, m', rfl, HKP, HRV2, HML, ?_⟩
       exact hs.sub (by repeat (first | exact List.Sublist.refl _ | refine List.Sublist.cons_cons _ ?_ | refine List.Sublist.cons _ ?_))
      ·have dE : ((E : Int) == 0) = false := by simp; omega
       clear hE
       go_wp2_with (first | (go_at_call 12; refine Calls.mono (sameM hs rfl (Reads.own 2 rfl) (Reads.own 1 rfl)) ?_; clear hs; rintro e w ⟨rfl, hs⟩))
       go_meet
       exact ⟨v', RV2, lA, lc, last, rfl, HKP, HRV2, HLL, hs.drop.drop.drop.drop⟩
     ·have dk : (k == 0) = false := by simpa using hk0
      have SB := Lib.hid (show ∀ y ∈ x.b.map v8, y.oneCell' = true from v8_one _)
      go_upto_if 118 with (first | ((with_reducible refine Se.isL (o := ⟨some 114, _, _, _, _, _⟩) ?_); (refine Se.toL rfl (Se.ld (o := ⟨some 114, _, _, _, _, _⟩) hs rfl rfl (Cell.blk 0 rfl K35.out) (by kernel_rfl) ?_))) | ((with_reducible refine Se.isL (o := ⟨some 117, _, _, _, _, _⟩) ?_); (refine Se.toL rfl (Se.ld (o := ⟨some 117, _, _, _, _, _⟩) hs rfl rfl (Cell.blk 1 rfl K0.out) (by kernel_rfl) ?_))) | (go_at_call 13; refine Calls.mono (own_st hs (HBR.out.app [_, _, _, _, _, _]) SB.out (by rw [HNB.out]; simp) (by have := H100.out; omega)) ?_; clear hs; rintro e w ⟨A3, c3, r3, rfl, hs⟩))
      clear SB
      go_cut [16] (fun s16 wx => ∃ (r16 : Option Nat) (B16 : Option Addr) (c16 : Nat) (rp : Bs), s16 = .slice B16 rp.length c16 ∧ Hid (rp.length ≤ 100) ∧ Hid (rp.length ≤ c16) ∧ St w0 X (.own 1 r16 B16 rp.length c16 (rp.map v8) :: .blk g10 38 PC :: .blk gV 69 (vcl v A2 c2) :: .blk g7 36 RV :: .rd lA (last.map v8) :: .rd A2 SV :: .blk g2 24 PL :: L) wx)
      case first =>
       by_cases hk2 : k = 2
       ·have dk2 : (k == 2) = true := by rw [hk2]; rfl
        obtain ⟨v', m', E, he⟩ : ∃ v' m' E, ansS { p := p } last bo x.N = (v', m', E) := ⟨_, _, _, rfl⟩
        have HML := Lib.hid (ans_kp HVP.out HNL.out he).2
        have CA : Hid (∀ (L' : List At) (w : World), .rd lA (last.map v8) ∈ L' → .rd A (p.sec.map v8) ∈ L' → St w0 X L' w → Calls Tryz.prog 14 #[.agg Q0.toArray, .slice lA last.length lc, .bool bo, .agg NV.toArray] w fun e w' => RPro w0 X L' A c v' m' E e w') := Lib.hid (fun L' w h1 h2 hs => by
         rw [HQ0.out, HNV.out]
         exact ransM hs _ (so_new p _) A lA c _ lc HVP.out (Reads.rdm h2) last rfl (Reads.rdm h1) (by have := HLL.out; omega) bo x.N HNL.out he)
        clear he hk2
        go_wp2_with (first | ((with_reducible refine Se.isL (o := ⟨some 120, _, _, _, _, _⟩) ?_); (refine Se.toL rfl (Se.ldw (o := ⟨some 120, _, _, _, _, _⟩) hs rfl rfl ((Reads.blk 6 rfl)) ((by rw [PLL.out]; kernel_rfl)) (by kernel_rfl) ?_))) | ((with_reducible refine Se.isL (o := ⟨some 121, _, _, _, _, _⟩) ?_); (refine Se.toL rfl (Se.bd (o := ⟨some 121, _, _, _, _, _⟩) rfl rfl (BQ.out _) ?_))) | ((with_reducible refine Se.isL (o := ⟨some 124, _, _, _, _, _⟩) ?_); (refine Se.toL rfl (Se.ld (o := ⟨some 124, _, _, _, _, _⟩) hs rfl rfl (Cell.blk 1 rfl K36.out) (by kernel_rfl) ?_))) | ((with_reducible refine Se.isL (o := ⟨some 126, _, _, _, _, _⟩) ?_); (refine Se.toL rfl (Se.ldw (o := ⟨some 126, _, _, _, _, _⟩) hs rfl rfl (((RN.out _ _).app [_])) ((by rw [NL.out]; kernel_rfl)) (by kernel_rfl) ?_))) | (go_at_call 14; refine Calls.mono (CA.out _ _ (by simp) (by simp [hr0.out]) hs) ?_; clear hs; rintro e w ⟨r4, B4, c4, s4, RQ, HSQ4, HRQ, rfl, hcap, hs⟩))
        go_meet
        exact ⟨r4, B4, c4, m', rfl, Lib.hid (by have := HML.out; omega), Lib.hid hcap, hs.sub (by repeat (first | exact List.Sublist.refl _ | refine List.Sublist.cons_cons _ ?_ | refine List.Sublist.cons _ ?_))⟩
       ·have dk2 : (k == 2) = false := by simpa using hk2
        go_wp2_with fail
        go_meet
        exact ⟨r3, A3, c3, x.b, by rw [HNB.out], Lib.hid (by have := H100.out; rw [HNB.out] at this; exact this), Lib.hid (by have := own_cap hs; rw [HNB.out] at this; exact this), by rw [HNB.out] at hs; exact hs⟩
      case rest =>
      clear hs
      rename World => w
      obtain ⟨r16, B16, c16, rp, rfl, HL1, HL2, hs⟩ := hcut
      obtain ⟨v', m', E, he⟩ : ∃ v' m' E, checkS v rp = (v', m', E) := ⟨_, _, _, rfl⟩
      have hkp := check_kp HV.out.1 he
      have HKP := Lib.hid (show v'.ok ∧ v'.p = p from ⟨hkp.1.1, hkp.1.2.trans HV.out.2⟩)
      have CC : Hid (∀ w, St w0 X (.own 1 r16 B16 rp.length c16 (rp.map v8) :: .blk g10 38 PC :: .blk gV 69 (vcl v A2 c2) :: .blk g7 36 RV :: .rd lA (last.map v8) :: .rd A2 SV :: .blk g2 24 PL :: L) w → Calls Tryz.prog 15 #[.pointer (some ⟨gV, 0, none⟩), .slice B16 rp.length c16] w fun e w' => MsgM w0 X [.own 1 r16 B16 rp.length c16 (rp.map v8), .blk g10 38 PC] (.blk g7 36 RV :: .rd lA (last.map v8) :: .rd A2 SV :: .blk g2 24 PL :: L) gV 69 A2 c2 v' m' m'.length E e w') := Lib.hid (fun w hs => by
       exact checkM (M := [_, _]) hs HV.out.1 (by rw [HV.out.2, ← HSV.out]; simp) (Reads.own 0 rfl) rfl (by have := HL1.out; omega) he rfl)
      have CR : Hid (∀ (L' : List At) (w : World), Reads L' B16 (rp.map v8) → .rd A (p.sec.map v8) ∈ L' → St w0 X L' w → Calls Tryz.prog 16 #[.agg RV.toArray, .slice B16 rp.length c16] w fun e w' => RVer w0 X L' A c v' m' E e w') := Lib.hid (fun L' w h1 h2 hs => by
       rw [HRV.out]
       exact rchkM hs A B16 c _ c16 HV.out.1 (by rw [HV.out.2]; exact Reads.rdm h2) rp rfl h1 HL2.out (by have := HL1.out; omega) he)
      clear he hkp
      go_upto_region 26 with (first | ((with_reducible refine Se.isL (o := ⟨some 138, _, _, _, _, _⟩) ?_); (refine Se.toL rfl (Se.ldw (o := ⟨some 138, _, _, _, _, _⟩) hs rfl rfl ((Reads.blk 4 rfl)) ((by rw [RVL.out]; kernel_rfl)) (by kernel_rfl) ?_))) | ((with_reducible refine Se.isL (o := ⟨some 19, _, _, _, _, _⟩) ?_); (refine Se.toL rfl (Se.al (o := ⟨some 19, _, _, _, _, _⟩) hs rfl (aI.out) ?_); clear hs; rintro w g19 - hs)) | ((with_reducible refine Se.isL (o := ⟨none, _, _, _, _, _⟩) ?_); (refine Se.toL rfl (Se.sow 0 hs rfl rfl rfl rfl ((by rw [HRV2.out]; exact rvc_one _ _ _)) ((by rw [HRV2.out, rvc_len HKP.out.1.n]; kernel_rfl)) ((by rw [HRV2.out, rvc_len HKP.out.1.n, ZL.out])) ?_); clear hs; intro w hs; try simp only [List.cons_append, List.nil_append, List.set_cons_zero] at hs)) | (go_at_call 15; refine Calls.mono (CC.out _ hs) ?_; clear hs; rintro e w ⟨r3, A3, c3, rfl, hs⟩) | (go_at_call 16; refine Calls.mono (CR.out _ _ (Reads.own 1 rfl) (by simp [hr0.out]) hs) ?_; clear hs; rintro e w ⟨r4, B4, c4, RV2, HRV2, rfl, hcap, hs⟩))
      have RV2L := Lib.hid (show RV2.length = 39 by rw [HRV2.out]; exact rvc_len HKP.out.1.n _ _)
      have RV2O := Lib.hid (show ∀ x ∈ RV2, x.oneCell' = true by rw [HRV2.out]; exact rvc_one _ _ _)
      clear CC CR
      go_upto_region 27 with (first | ((with_reducible refine Se.isL (o := ⟨some 144, _, _, _, _, _⟩) ?_); (refine Se.toL rfl (Se.ldw (o := ⟨some 144, _, _, _, _, _⟩) hs rfl rfl ((Reads.blk 0 rfl)) ((by rw [RV2L.out]; kernel_rfl)) (by kernel_rfl) ?_))) | ((with_reducible refine Se.isL (o := ⟨none, _, _, _, _, _⟩) ?_); (refine Se.toL rfl (Se.sow 6 hs rfl rfl rfl rfl (RV2O.out) ((by rw [RV2L.out]; kernel_rfl)) ((by rw [RV2L.out, RVL.out])) ?_); clear hs; intro w hs; try simp only [List.cons_append, List.nil_append, List.set_cons_zero, List.set_cons_succ] at hs)))
      go_wp2_with (first | (go_at_call 12; refine Calls.mono (sameM hs rfl (Reads.own 2 rfl) (Reads.own 1 rfl)) ?_; clear hs; rintro e w ⟨rfl, hs⟩))
      go_meet
      exact ⟨v', RV2, lA, lc, last, rfl, HKP, HRV2, HLL, hs.drop.drop.drop.drop.drop⟩
    case rest =>
    clear hs
    rename World => w
    obtain ⟨v', RV', lA', lc', last', rfl, HV', HRV', HLL', hs⟩ := hcut
    obtain ⟨dd, hdd⟩ : ∃ dd, v'.d = dd := ⟨_, rfl⟩
    have HDD := Lib.hid hdd
    have R38 := Lib.hid (show RV'[38]? = some (.bool dd) by rw [HRV'.out, ← hdd]; exact rvc_38 HV'.out.1.n _ _)
    clear hdd
    go_upto_region 29 with (fail)
    refine Ch.region' 5 (fun wx => Blk wx g7 RV' 36) (fun | 1 => true | _ => false) (by kernel_rfl) (by decide +kernel) (hs.drew.hold (.blk g7 36 RV') (by simp)) ?_
    replace hs := hs.drew
    generalize w.drew = w at hs ⊢
    change Ch.CW _ _ _ _ _ [0, 1, 2, 3, 4] _ _
    iterate 1 ((first | (refine Ch.pure (v := ?_) (by rfl) (by rfl) (by rfl) (fun wx hS => ?_) ?_; rotate_left; (focus (go_simp; (first | done | with_reducible rfl))))); (try simp only [Act.put, List.setIfInBounds_toArray, List.set_cons_zero, List.set_cons_succ]))
    refine Ch.noise (by rfl) (by rfl) (by rfl) ?_
    refine Se.gcall (f := 17) (args := #[.pointer (some ⟨gV, 0, none⟩)]) ?_ ?_
    ·go_simp
    refine Calls.mono (verDoneM (M := []) hs HV'.out.1.n HDD.out) ?_
    clear hs
    rintro e w ⟨rfl, hs⟩
    refine ⟨_, rfl, hs.hold (.blk g7 36 RV') (by simp), ?_⟩
    (try simp only [Act.put, List.setIfInBounds_toArray, List.set_cons_zero, List.set_cons_succ])
    iterate 2 ((first | (refine Ch.pure (v := ?_) (by rfl) (by rfl) (by rfl) (fun wx hS => ?_) ?_; rotate_left; (focus (go_simp; (first | done | with_reducible rfl)))) | refine Ch.pure (v := _) (by rfl) (by rfl) (by rfl) (fun wx hS => Se.xl rfl rfl ((hS.cell _).trans R38.out) (by decide +kernel)) ?_); (try simp only [Act.put, List.setIfInBounds_toArray, List.set_cons_zero, List.set_cons_succ]))
    iterate 1 (refine Ch.pure (v := ?_) (by rfl) (by rfl) (by rfl) (fun wx hS => ?_) ?_; rotate_left; (focus (go_simp; (first | done | with_reducible rfl))); (try simp only [Act.put, List.setIfInBounds_toArray, List.set_cons_zero, List.set_cons_succ]))
    refine Ch.done ?_
    try simp only [List.drop_succ_cons, List.drop_zero]
    go_wp2_with fail
    go_roundg (n - (i + 1))
    case measure => omega
    case rel =>
     have h20 := H20.out
     exact ⟨i + 1, v', RV', lA', lc', last', rfl, by omega, rfl, congrArg (Value.int .i64) ((IntWalk.wrap64_in ((i : Int) + 1) (by omega)).trans (by omega)), HV', HRV', HLL', hs⟩
   ·obtain rfl : i = n := by omega
    go_wp2_with (first | (go_at_call 7; refine Calls.mono (known_st hs) ?_; clear hs; rintro e w ⟨rfl, hs⟩))
    go_ret
    exact ⟨rfl, hs.drop.drop.drop.drop.drop⟩
theorem verifies_any (W : World) (p : Pn) {A : Option Addr} {c : Nat} (hr : Rd W A (p.sec.map v8)) {LA : Option Addr} {n ca : Nat} {R : List (List Value)} {qs : List (Ac × Option Addr × Nat)} (hn : n = (qs.map (·.1)).length) (hA : Rd W LA R.flatten) (hq : ∀ q ∈ qs, Rd W q.2.1 (q.1.b.map v8)) (hS : AS (rds (qs.map fun q => (q.2.1, q.1.b.map v8))) R (qs.map (·.1))) :
  Calls Tryz.prog 3 #[.agg (pcl p A c).toArray, .slice LA n ca] W fun e w' => e = .returned (.bool true) ∧ Below W.heap.size W w' := by
 have h0 : St W [] (rds ((A, p.sec.map v8) :: (LA, R.flatten) :: qs.map fun q => (q.2.1, q.1.b.map v8))) W := start_rds (by
  intro q h
  rcases List.mem_cons.1 h with rfl | h
  ·exact hr
  rcases List.mem_cons.1 h with rfl | h
  ·exact hA
  ·obtain ⟨y, hy, rfl⟩ := List.mem_map.1 h
   exact hq y hy)
 exact (verifies_st h0 p A c (by unfold rds; simp) hn (rds_mem (List.mem_cons_of_mem _ List.mem_cons_self)) (hS.rds (fun q h => List.mem_cons_of_mem _ (List.mem_cons_of_mem _ h)))).mono fun e w' h => ⟨h.1, h.2.below⟩
end Au
end Go.Proofs.YtakdoijemopejaaGreat

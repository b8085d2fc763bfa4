/- Layer 38's law AuthProves, the walk. No condition but Go's own limits. -/
import Derived.Test.YtakdoijemopejaaGreatAuR15
set_option linter.unusedSimpArgs false
set_option linter.unusedVariables false
namespace Go.Proofs.YtakdoijemopejaaGreat
open Go Go.RowKit
namespace Au
open Se (St At Reads Cell)
open Li (v8 v8_one Rd Blk Fr)
open Bv (n8 n16 n32 n64)
variable {w0 w : World} {X : List Nat} {L M : List At}
attribute [local irreducible] Calls
theorem rps_37 {v : Vs} (h : v.n.length = 32) (s : ByteArray) (A : Option Addr) (c : Nat) : (rps v s A c)[37]? = some (.bool v.d) := by
 unfold rps rpc
 rw [List.getElem?_append_right (by simp [pcl, h])]
 simp [pcl, h]
theorem rps_len {v : Vs} (h : v.n.length = 32) (s : ByteArray) (A : Option Addr) (c : Nat) : (rps v s A c).length = 38 := rpc_len h _ _ _ _ _ _
theorem rps_one (v : Vs) (s : ByteArray) (A : Option Addr) (c : Nat) : ∀ x ∈ rps v s A c, x.oneCell' = true := rpc_one _ _ _ _ _ _ _
set_option maxRecDepth 100000 in
set_option maxHeartbeats 4000000 in
theorem proves_st (hs : St w0 X L w) (p : Pn) (A : Option Addr) (c : Nat) (hr : .rd A (p.sec.map v8) ∈ L) {LA : Option Addr} {n ca : Nat} {R : List (List Value)} {xs : List Ac} (hn : n = xs.length) (hA : Reads L LA R.flatten) (hS : AS L R xs) :
  Calls Tryz.prog 4 #[.agg (pcl p A c).toArray, .slice LA n ca] w fun e w' => e = .returned (.bool true) ∧ St w0 X L w' := by
 obtain ⟨PL, hPL⟩ : ∃ PL, PL = pcl p A c := ⟨_, rfl⟩
 obtain ⟨m, hm⟩ : ∃ m, m = p.sec.length := ⟨_, rfl⟩
 obtain ⟨SV, hSV⟩ : ∃ SV, SV = p.sec.map v8 := ⟨_, rfl⟩
 obtain ⟨va, hva⟩ : ∃ va, va = valid p.py := ⟨_, rfl⟩
 obtain ⟨sh, hsh⟩ : ∃ sh, sh = short p := ⟨_, rfl⟩
 have P0 := Lib.hid (show PL[0]? = some (.slice A m c) by rw [hPL, hm]; rfl)
 have P1 := Lib.hid (show PL[1]? = some (.string p.hs) by rw [hPL]; rfl)
 have P2 := Lib.hid (show PL[2]? = some (.string p.sb) by rw [hPL]; rfl)
 have PLL := Lib.hid (show PL.length = 3 by rw [hPL]; rfl)
 have CS : Hid (∀ (L' : List At) (w : World), St w0 X L' w → Calls Tryz.prog 6 #[.agg PL.toArray] w fun e w' => e = .returned (.bool sh) ∧ St w0 X L' w') := Lib.hid (fun L' w hs => by rw [hPL, hsh]; exact short_st hs p A c)
 have HB : Hid (sh = true → m ≤ 80 ∧ p.hs.size ≤ 240 ∧ p.sb.size ≤ 240) := Lib.hid (fun h => by
  rw [hsh] at h
  simp only [short, Bool.and_eq_true, decide_eq_true_eq] at h
  exact ⟨by rw [hm]; exact h.1.1, h.1.2, h.2⟩)
 have CV : Hid (sh = true → ∀ (L' : List At) (w : World), St w0 X L' w → Calls Tryz.prog 9 #[.agg PL.toArray] w fun e w' => e = .returned (.bool va) ∧ St w0 X L' w') := Lib.hid (fun h L' w hs => by rw [hPL, hva]; exact rvalid_st hs p A c (HB.out h).2.1 (HB.out h).2.2)
 have HPL := Lib.hid hPL
 have HM := Lib.hid hm
 have HSV := Lib.hid hSV
 have HVA := Lib.hid hva
 have HSH := Lib.hid hsh
 have HN := Lib.hid hn
 have hr0 := Lib.hid hr
 have C1 : Hid (∀ (i : Nat) (hi : i < xs.length) (w : World), (∀ a ∈ L, a.holds w) → ∃ PC B c, Hid (PC = ac xs[i] B c) ∧ Hid (xs[i].N.length = 32) ∧ Hid (Reads L B (xs[i].b.map v8)) ∧ ∃ g o, LA = some ⟨g, o, none⟩ ∧ Hid (Reads L (some ⟨g, o + i * 37, none⟩) PC)) := Lib.hid (fun i hi w hw => by
  obtain ⟨PC, B, c, h1, h4, h2, h3⟩ := hS.row hi
  obtain ⟨g, o, hg, _, _⟩ := (hA w hw).cells (hS.ne hi)
  exact ⟨PC, B, c, Lib.hid h1, Lib.hid h4, Lib.hid h2, g, o, hg, Lib.hid (h3 g o (hg ▸ hA))⟩)
 rw [← hPL]
 clear hPL hm hSV hva hsh hn hr hA hS
 cases sh with
 | false =>
  go_enter Tryz.func4, Tryz.ntmps4
  go_wp2_with (first | ((with_reducible refine Se.isL (o := ⟨some 22, _, _, _, _, _⟩) ?_); (refine Se.toL rfl (Se.ldw (o := ⟨some 22, _, _, _, _, _⟩) hs rfl rfl ((Reads.blk 0 rfl)) ((by rw [PLL.out]; kernel_rfl)) (by kernel_rfl) ?_))) | ((first | with_reducible refine Se.ab hs ?_ | with_reducible refine Se.abc hs ?_); clear hs; (first | (generalize w.heap.size = g2; intro w hs))) | (go_at_call 6; refine Calls.mono (CS.out _ _ hs) ?_; clear hs; rintro e w ⟨rfl, hs⟩) | (go_at_call 7; refine Calls.mono (known_st hs) ?_; clear hs; rintro e w ⟨rfl, hs⟩))
  go_ret
  exact ⟨rfl, hs.drop⟩
 | true =>
 by_cases h20 : 20 < n
 ·have d1 : decide ((20 : Int) < (n : Int)) = true := by simp; omega
  clear h20
  go_enter Tryz.func4, Tryz.ntmps4
  go_wp2_with (first | ((with_reducible refine Se.isL (o := ⟨some 22, _, _, _, _, _⟩) ?_); (refine Se.toL rfl (Se.ldw (o := ⟨some 22, _, _, _, _, _⟩) hs rfl rfl ((Reads.blk 0 rfl)) ((by rw [PLL.out]; kernel_rfl)) (by kernel_rfl) ?_))) | ((first | with_reducible refine Se.ab hs ?_ | with_reducible refine Se.abc hs ?_); clear hs; (first | (generalize w.heap.size = g2; intro w hs))) | (go_at_call 6; refine Calls.mono (CS.out _ _ hs) ?_; clear hs; rintro e w ⟨rfl, hs⟩) | (go_at_call 7; refine Calls.mono (known_st hs) ?_; clear hs; rintro e w ⟨rfl, hs⟩))
  go_ret
  exact ⟨rfl, hs.drop⟩
 have d20 : decide ((20 : Int) < (n : Int)) = false := by simp; omega
 have H20 := Lib.hid (show n ≤ 20 by omega)
 clear h20
 have CV1 := Lib.hid (CV.out rfl)
 clear CV
 cases va with
 | false =>
  have CN : Hid (∀ (L' : List At) (w : World), Reads L' A (p.sec.map v8) → St w0 X L' w → Calls Tryz.prog 18 #[.slice A m c, .string p.hs, .string p.sb] w fun e w' => e = .returned (.tuple #[.pointer none, .int .i64 2]) ∧ St w0 X L' w') := Lib.hid (fun L' w hr hs => by rw [HM.out]; exact proNewF hs p A c hr HSH.out.symm HVA.out.symm)
  go_enter Tryz.func4, Tryz.ntmps4
  go_wp2_with (first | ((with_reducible refine Se.isL (o := ⟨some 22, _, _, _, _, _⟩) ?_); (refine Se.toL rfl (Se.ldw (o := ⟨some 22, _, _, _, _, _⟩) hs rfl rfl ((Reads.blk 0 rfl)) ((by rw [PLL.out]; kernel_rfl)) (by kernel_rfl) ?_))) | ((with_reducible refine Se.isL (o := ⟨some 33, _, _, _, _, _⟩) ?_); (refine Se.toL rfl (Se.ld (o := ⟨some 33, _, _, _, _, _⟩) hs rfl rfl (Cell.blk 0 rfl P0.out) (by kernel_rfl) ?_))) | ((with_reducible refine Se.isL (o := ⟨some 35, _, _, _, _, _⟩) ?_); (refine Se.toL rfl (Se.ld (o := ⟨some 35, _, _, _, _, _⟩) hs rfl rfl (Cell.blk 0 rfl P1.out) (by kernel_rfl) ?_))) | ((with_reducible refine Se.isL (o := ⟨some 37, _, _, _, _, _⟩) ?_); (refine Se.toL rfl (Se.ld (o := ⟨some 37, _, _, _, _, _⟩) hs rfl rfl (Cell.blk 0 rfl P2.out) (by kernel_rfl) ?_))) | ((with_reducible refine Se.isL (o := ⟨some 41, _, _, _, _, _⟩) ?_); (refine Se.toL rfl (Se.ldw (o := ⟨some 41, _, _, _, _, _⟩) hs rfl rfl ((Reads.blk 0 rfl)) ((by rw [PLL.out]; kernel_rfl)) (by kernel_rfl) ?_))) | ((first | with_reducible refine Se.ab hs ?_ | with_reducible refine Se.abc hs ?_); clear hs; (first | (generalize w.heap.size = g2; intro w hs))) | (go_at_call 6; refine Calls.mono (CS.out _ _ hs) ?_; clear hs; rintro e w ⟨rfl, hs⟩) | (go_at_call 18; refine Calls.mono (CN.out _ _ ((Reads.rdm hr0.out).cons _) hs) ?_; clear hs; rintro e w ⟨rfl, hs⟩) | (go_at_call 9; refine Calls.mono (CV1.out _ _ hs) ?_; clear hs; rintro e w ⟨rfl, hs⟩) | (go_at_call 7; refine Calls.mono (known_st hs) ?_; clear hs; rintro e w ⟨rfl, hs⟩))
  go_ret
  exact ⟨rfl, hs.drop⟩
 | true =>
  have HB1 := Lib.hid (HB.out rfl)
  obtain ⟨R0, hR0⟩ : ∃ R0, R0 = rps { p := p } ⟨#[]⟩ A c := ⟨_, rfl⟩
  obtain ⟨Z, hZ⟩ : ∃ Z, Z = rpc ⟨[], ⟨#[]⟩, ⟨#[]⟩⟩ none 0 ⟨#[]⟩ z32 false false := ⟨_, rfl⟩
  obtain ⟨ZV, hZV⟩ : ∃ ZV, ZV = rvc { p := ⟨[], ⟨#[]⟩, ⟨#[]⟩⟩ } none 0 := ⟨_, rfl⟩
  have aV := Lib.hid rvI
  rw [← hZV] at aV
  have ZVL := Lib.hid (show ZV.length = 39 by rw [hZV]; exact rvc_len rfl _ _)
  obtain ⟨ZA, hZA⟩ : ∃ ZA, ZA = acl 0 z32 0#32 0#16 none 0 0 false := ⟨_, rfl⟩
  have aI := Lib.hid rpI
  have aA := Lib.hid actI
  rw [← hZ] at aI
  rw [← hZA] at aA
  have ZL := Lib.hid (show Z.length = 38 by rw [hZ]; exact rpc_len rfl _ _ _ _ _ _)
  have ZAL := Lib.hid (show ZA.length = 37 by rw [hZA]; rfl)
  have R0L := Lib.hid (show R0.length = 38 by rw [hR0]; exact rps_len rfl _ _ _)
  have R0O := Lib.hid (show ∀ x ∈ R0, x.oneCell' = true by rw [hR0]; exact rps_one _ _ _ _)
  have HR0 := Lib.hid hR0
  have HV0 := Lib.hid (show ({ p := p } : Vs).ok ∧ ({ p := p } : Vs).p = p from ⟨valid_ok HVA.out.symm HB1.out.2.1 HB1.out.2.2, rfl⟩)
  have BV := Lib.hid (show ∀ w : World, (Instr.build 46 #[(0, .agg PL.toArray)]).run Tryz.prog w = .ok (.agg R0.toArray) w by rw [HPL.out, hR0]; exact rps_new p A c)
  obtain ⟨Q0, hQ0⟩ : ∃ Q0, Q0 = rvc { p := p } A c := ⟨_, rfl⟩
  have BQ := Lib.hid (show ∀ w : World, (Instr.build 36 #[(0, .agg PL.toArray)]).run Tryz.prog w = .ok (.agg Q0.toArray) w by rw [HPL.out, hQ0]; exact rvc_new p A c)
  have HQ0 := Lib.hid hQ0
  have CN : Hid (∀ (L' : List At) (w : World), Reads L' A (p.sec.map v8) → St w0 X L' w → Calls Tryz.prog 18 #[.slice A m c, .string p.hs, .string p.sb] w fun e w' => ∃ g A2 c2, e = .returned (.tuple #[.pointer (some ⟨g, 0, none⟩), .int .i64 0]) ∧ St w0 X (.blk g 83 (vcl { p := p } A2 c2) :: .rd A2 SV :: L') w') := Lib.hid (fun L' w hr hs => by rw [HM.out, HSV.out]; exact proNewT hs p A c hr HSH.out.symm HVA.out.symm)
  have HVP := Lib.hid (show ({ p := p } : Vs).ok from HV0.out.1)
  clear hR0 hZ hZV hZA hQ0 HSH HVA HB
  go_enter Tryz.func4, Tryz.ntmps4
  go_upto_region 7 with (first | ((with_reducible refine Se.isL (o := ⟨some 22, _, _, _, _, _⟩) ?_); (refine Se.toL rfl (Se.ldw (o := ⟨some 22, _, _, _, _, _⟩) hs rfl rfl ((Reads.blk 0 rfl)) ((by rw [PLL.out]; kernel_rfl)) (by kernel_rfl) ?_))) | ((with_reducible refine Se.isL (o := ⟨some 33, _, _, _, _, _⟩) ?_); (refine Se.toL rfl (Se.ld (o := ⟨some 33, _, _, _, _, _⟩) hs rfl rfl (Cell.blk 0 rfl P0.out) (by kernel_rfl) ?_))) | ((with_reducible refine Se.isL (o := ⟨some 35, _, _, _, _, _⟩) ?_); (refine Se.toL rfl (Se.ld (o := ⟨some 35, _, _, _, _, _⟩) hs rfl rfl (Cell.blk 0 rfl P1.out) (by kernel_rfl) ?_))) | ((with_reducible refine Se.isL (o := ⟨some 37, _, _, _, _, _⟩) ?_); (refine Se.toL rfl (Se.ld (o := ⟨some 37, _, _, _, _, _⟩) hs rfl rfl (Cell.blk 0 rfl P2.out) (by kernel_rfl) ?_))) | ((with_reducible refine Se.isL (o := ⟨some 41, _, _, _, _, _⟩) ?_); (refine Se.toL rfl (Se.ldw (o := ⟨some 41, _, _, _, _, _⟩) hs rfl rfl ((Reads.blk 2 rfl)) ((by rw [PLL.out]; kernel_rfl)) (by kernel_rfl) ?_))) | ((with_reducible refine Se.isL (o := ⟨some 53, _, _, _, _, _⟩) ?_); (refine Se.toL rfl (Se.ldw (o := ⟨some 53, _, _, _, _, _⟩) hs rfl rfl ((Reads.blk 2 rfl)) ((by rw [PLL.out]; kernel_rfl)) (by kernel_rfl) ?_))) | ((with_reducible refine Se.isL (o := ⟨some 54, _, _, _, _, _⟩) ?_); (refine Se.toL rfl (Se.bd (o := ⟨some 54, _, _, _, _, _⟩) rfl rfl (BV.out _) ?_))) | ((with_reducible refine Se.isL (o := ⟨some 7, _, _, _, _, _⟩) ?_); (refine Se.toL rfl (Se.al (o := ⟨some 7, _, _, _, _, _⟩) hs rfl (aI.out) ?_); clear hs; rintro w g7 - hs)) | ((with_reducible refine Se.isL (o := ⟨none, _, _, _, _, _⟩) ?_); (refine Se.toL rfl (Se.sow 0 hs rfl rfl rfl rfl (R0O.out) ((by rw [R0L.out]; kernel_rfl)) ((by rw [R0L.out, ZL.out])) ?_); clear hs; intro w hs; try simp only [List.cons_append, List.nil_append, List.set_cons_zero] at hs)) | ((first | with_reducible refine Se.ab hs ?_ | with_reducible refine Se.abc hs ?_); clear hs; (first | (generalize w.heap.size = g2; intro w hs))) | (go_at_call 6; refine Calls.mono (CS.out _ _ hs) ?_; clear hs; rintro e w ⟨rfl, hs⟩) | (go_at_call 18; refine Calls.mono (CN.out _ _ ((Reads.rdm hr0.out).cons _) hs) ?_; clear hs; rintro e w ⟨gV, A2, c2, rfl, hs⟩) | (go_at_call 9; refine Calls.mono (CV1.out _ _ hs) ?_; clear hs; rintro e w ⟨rfl, hs⟩))
  clear CS CV1 CN P0 P1 P2 BV d20
  replace hs := (hs.nil_own 1 none).own_rd
  replace hs := hs.pull 4 rfl
  replace hs := hs.pull 4 rfl
  replace hs := hs.pull 2 rfl
  replace hs := hs.pull 3 rfl
  replace hs := hs.pull 4 rfl
  simp only [List.eraseIdx_cons_succ, List.eraseIdx_cons_zero] at hs
  go_wp2_with fail
  go_loopg [8, 9] n (fun gh s8 s9 wr => ∃ (i : Nat) (v : Vs) (s : ByteArray) (RV : List Value) (lA : Option Addr) (lc : Nat) (last : Bs), gh = n - i ∧ i ≤ n ∧ s8 = .slice lA last.length lc ∧ s9 = .int .i64 (i : Int) ∧ Hid (v.ok ∧ v.p = p) ∧ Hid (RV = rps v s A c ∧ SOk v s) ∧ Hid (last.length ≤ 40 ∧ last.length ≤ lc) ∧ St w0 X (.blk gV 83 (vcl v A2 c2) :: .blk g7 46 RV :: .rd lA (last.map v8) :: .rd A2 SV :: .blk g2 24 PL :: L) wr)
  case atStart => exact ⟨0, { p := p }, ⟨#[]⟩, R0, none, 0, [], rfl, Nat.zero_le _, rfl, rfl, Lib.hid ⟨HV0.out.1, rfl⟩, Lib.hid ⟨HR0.out, so_new p _⟩, Lib.hid ⟨Nat.zero_le _, Nat.zero_le _⟩, hs⟩
  case round =>
   clear hs HR0 R0L R0O HV0
   rename World => w
   obtain ⟨i, v, s, RV, lA, lc, last, rfl, hi, rfl, rfl, HV, HRV, HLL, hs⟩ := hrel
   by_cases hlt : i < n
   ·have hlt' : (i : Int) < (n : Int) := by omega
    have hil : i < xs.length := by have := HN.out; omega
    obtain ⟨PC, B, bc, HPC, HNL, HBR, ga, oa, rfl, HRP⟩ := C1.out i hil w (fun a ha => hs.hold a (by simp [ha]))
    obtain ⟨x, hx⟩ : ∃ x, xs[i] = x := ⟨_, rfl⟩
    rw [hx] at HPC HNL HBR
    obtain ⟨nb, hnb⟩ : ∃ nb, nb = x.b.length := ⟨_, rfl⟩
    obtain ⟨NV, hNV⟩ : ∃ NV, NV = x.N.map v8 := ⟨_, rfl⟩
    obtain ⟨k, hk⟩ : ∃ k, k = x.k := ⟨_, rfl⟩
    obtain ⟨sq, hsq⟩ : ∃ sq, sq = n32 x.s := ⟨_, rfl⟩
    obtain ⟨qq, hqq⟩ : ∃ qq, qq = n16 x.q := ⟨_, rfl⟩
    obtain ⟨bo, hbo⟩ : ∃ bo, bo = x.both := ⟨_, rfl⟩
    have hacl := acl_33 (kind := x.k) HNL.out (seq := x.s) (q := x.q) (B := B) (n := x.b.length) (c := bc) (both := x.both)
    have PCL := Lib.hid (show PC.length = 37 by rw [HPC.out]; exact hacl.2.2.2.2.1)
    have PCO := Lib.hid (show ∀ x ∈ PC, x.oneCell' = true by rw [HPC.out]; exact acl_one _ _ _ _ _ _ _ _)
    have K0 := Lib.hid (show PC[0]? = some (.int .i64 k) by rw [HPC.out, hk]; rfl)
    have K33 := Lib.hid (show PC[33]? = some (.int .u32 sq) by rw [HPC.out, hsq]; exact hacl.1)
    have K34 := Lib.hid (show PC[34]? = some (.int .u16 qq) by rw [HPC.out, hqq]; exact hacl.2.1)
    have K35 := Lib.hid (show PC[35]? = some (.slice B nb bc) by rw [HPC.out, hnb]; exact hacl.2.2.1)
    have K36 := Lib.hid (show PC[36]? = some (.bool bo) by rw [HPC.out, hbo]; exact hacl.2.2.2.1)
    have NL := Lib.hid (show NV.length = 32 by rw [hNV]; simpa using HNL.out)
    have RN := Lib.hid (show ∀ (L' : List At) (g : Nat), Reads (.blk g 38 PC :: L') (some ⟨g, 1, none⟩) NV by
     intro L' g
     have h := ((Reads.blk (L := .blk g 38 PC :: L') 0 rfl).at 1).take 32
     rw [HPC.out] at h
     unfold ac at h
     rw [hacl.2.2.2.2.2, ← hNV, Nat.zero_add] at h
     rw [HPC.out]
     exact h)
    have RVL := Lib.hid (show RV.length = 38 by rw [HRV.out.1]; exact rps_len HV.out.1.n _ _ _)
    have HNB := Lib.hid hnb
    have HNV := Lib.hid hNV
    have HSQ := Lib.hid hsq
    have HQQ := Lib.hid hqq
    have HBO := Lib.hid hbo
    clear hacl hnb hNV hk hsq hqq hbo HPC
    go_upto_region 11 with (first | ((with_reducible refine Se.isL (o := ⟨some 68, _, _, _, _, _⟩) ?_); (refine Se.toL rfl (Se.ldw (o := ⟨some 68, _, _, _, _, _⟩) hs rfl rfl ((HRP.out.app [_, _, _, _, _])) ((by rw [PCL.out]; kernel_rfl)) (by kernel_rfl) ?_))) | ((with_reducible refine Se.isL (o := ⟨some 10, _, _, _, _, _⟩) ?_); (refine Se.toL rfl (Se.al (o := ⟨some 10, _, _, _, _, _⟩) hs rfl (aA.out) ?_); clear hs; rintro w g10 - hs)) | ((with_reducible refine Se.isL (o := ⟨none, _, _, _, _, _⟩) ?_); (refine Se.toL rfl (Se.sow 0 hs rfl rfl rfl rfl (PCO.out) ((by rw [PCL.out]; kernel_rfl)) ((by rw [PCL.out, ZAL.out])) ?_); clear hs; intro w hs; try simp only [List.cons_append, List.nil_append, List.set_cons_zero] at hs)))
    clear HRP
    by_cases h100 : 100 < nb
    ·have d1 : decide ((100 : Int) < (nb : Int)) = true := by simp; omega
     clear h100
     go_wp2_with (first | ((with_reducible refine Se.isL (o := ⟨some 70, _, _, _, _, _⟩) ?_); (refine Se.toL rfl (Se.ld (o := ⟨some 70, _, _, _, _, _⟩) hs rfl rfl (Cell.blk 0 rfl K35.out) (by kernel_rfl) ?_))) | (go_at_call 7; refine Calls.mono (known_st hs) ?_; clear hs; rintro e w ⟨rfl, hs⟩))
     go_ret
     exact ⟨rfl, hs.drop.drop.drop.drop.drop.drop⟩
    have d100 : decide ((100 : Int) < (nb : Int)) = false := by simp; omega
    have H100 := Lib.hid (show nb ≤ 100 by omega)
    clear h100
    go_upto_if 76 with (first | ((with_reducible refine Se.isL (o := ⟨some 70, _, _, _, _, _⟩) ?_); (refine Se.toL rfl (Se.ld (o := ⟨some 70, _, _, _, _, _⟩) hs rfl rfl (Cell.blk 0 rfl K35.out) (by kernel_rfl) ?_))) | ((with_reducible refine Se.isL (o := ⟨some 75, _, _, _, _, _⟩) ?_); (refine Se.toL rfl (Se.ld (o := ⟨some 75, _, _, _, _, _⟩) hs rfl rfl (Cell.blk 0 rfl K0.out) (by kernel_rfl) ?_))))
    clear d100
    go_cut [8] (fun s8 wx => ∃ (v' : Vs) (s' : ByteArray) (RV' : List Value) (lA' : Option Addr) (lc' : Nat) (last' : Bs), s8 = .slice lA' last'.length lc' ∧ Hid (v'.ok ∧ v'.p = p) ∧ Hid (RV' = rps v' s' A c ∧ SOk v' s') ∧ Hid (last'.length ≤ 40 ∧ last'.length ≤ lc') ∧ St w0 X (.blk gV 83 (vcl v' A2 c2) :: .blk g7 46 RV' :: .rd lA' (last'.map v8) :: .rd A2 SV :: .blk g2 24 PL :: L) wx)
    case first =>
     by_cases hk0 : k = 0
     ·have dk : (k == 0) = true := by rw [hk0]; rfl
      obtain ⟨vc, mc, Ec, hec⟩ : ∃ v' m' E, chalS { p := p } x.N x.s x.q = (v', m', E) := ⟨_, _, _, rfl⟩
      have hkpc := chal_kp HVP.out HNL.out hec
      have HKPC := Lib.hid (show vc.ok ∧ vc.p = p from ⟨hkpc.1.1, hkpc.1.2⟩)
      have HMC := Lib.hid hkpc.2
      have CR : Hid (∀ (L' : List At) (w : World), St w0 X L' w → Calls Tryz.prog 11 #[.agg Q0.toArray, .agg NV.toArray, .int .u32 sq, .int .u16 qq] w fun e w' => RVer w0 X L' A c vc mc Ec e w') := Lib.hid (fun L' w hs => by
       rw [HQ0.out, HNV.out, HSQ.out, HQQ.out]
       exact rchalM hs A c HVP.out.n x.N HNL.out x.s x.q hec)
      clear hk0 hec hkpc
      go_upto_if 93 with (first | ((with_reducible refine Se.isL (o := ⟨some 78, _, _, _, _, _⟩) ?_); (refine Se.toL rfl (Se.ldw (o := ⟨some 78, _, _, _, _, _⟩) hs rfl rfl ((Reads.blk 5 rfl)) ((by rw [PLL.out]; kernel_rfl)) (by kernel_rfl) ?_))) | ((with_reducible refine Se.isL (o := ⟨some 79, _, _, _, _, _⟩) ?_); (refine Se.toL rfl (Se.bd (o := ⟨some 79, _, _, _, _, _⟩) rfl rfl (BQ.out _) ?_))) | ((with_reducible refine Se.isL (o := ⟨some 81, _, _, _, _, _⟩) ?_); (refine Se.toL rfl (Se.ldw (o := ⟨some 81, _, _, _, _, _⟩) hs rfl rfl ((RN.out _ _)) ((by rw [NL.out]; kernel_rfl)) (by kernel_rfl) ?_))) | ((with_reducible refine Se.isL (o := ⟨some 83, _, _, _, _, _⟩) ?_); (refine Se.toL rfl (Se.ld (o := ⟨some 83, _, _, _, _, _⟩) hs rfl rfl (Cell.blk 0 rfl K33.out) (by kernel_rfl) ?_))) | ((with_reducible refine Se.isL (o := ⟨some 85, _, _, _, _, _⟩) ?_); (refine Se.toL rfl (Se.ld (o := ⟨some 85, _, _, _, _, _⟩) hs rfl rfl (Cell.blk 0 rfl K34.out) (by kernel_rfl) ?_))) | ((with_reducible refine Se.isL (o := ⟨some 11, _, _, _, _, _⟩) ?_); (refine Se.toL rfl (Se.al (o := ⟨some 11, _, _, _, _, _⟩) hs rfl (aV.out) ?_); clear hs; rintro w g11 - hs)) | ((with_reducible refine Se.isL (o := ⟨none, _, _, _, _, _⟩) ?_); (refine Se.toL rfl (Se.sow 0 hs rfl rfl rfl rfl ((by rw [HRVC.out]; exact rvc_one _ _ _)) ((by rw [HRVC.out, rvc_len HKPC.out.1.n]; kernel_rfl)) ((by rw [HRVC.out, rvc_len HKPC.out.1.n, ZVL.out])) ?_); clear hs; intro w hs; try simp only [List.cons_append, List.nil_append, List.set_cons_zero] at hs)) | ((with_reducible refine Se.isL (o := ⟨some 91, _, _, _, _, _⟩) ?_); (refine Se.toL rfl (Se.ld (o := ⟨some 91, _, _, _, _, _⟩) hs rfl rfl (Cell.blk 2 rfl K35.out) (by kernel_rfl) ?_))) | (go_at_call 11; refine Calls.mono (CR.out _ _ hs) ?_; clear hs; rintro e w ⟨r4, B4, c4, RVC, HRVC, rfl, hcap, hs⟩))
      clear CR
      have HCAP := Lib.hid hcap
      clear hcap
      have RVCL := Lib.hid (show RVC.length = 39 by rw [HRVC.out]; exact rvc_len HKPC.out.1.n _ _)
      go_cut [12] (fun s12 wx => ∃ (B12 : Option Addr) (c12 : Nat) (ch : Bs), s12 = .slice B12 ch.length c12 ∧ Hid (ch.length ≤ 100) ∧ Hid (Reads (.blk g11 36 RVC :: .own 1 r4 B4 mc.length c4 (mc.map v8) :: .blk g10 38 PC :: .blk g7 46 RV :: .rd lA (last.map v8) :: .rd A2 SV :: .blk g2 24 PL :: L) B12 (ch.map v8)) ∧ Hid (∀ vv : List Value, Reads (.blk g11 36 RVC :: .own 1 r4 B4 mc.length c4 (mc.map v8) :: .blk g10 38 PC :: .blk gV 83 vv :: .blk g7 46 RV :: .rd lA (last.map v8) :: .rd A2 SV :: .blk g2 24 PL :: L) B12 (ch.map v8)) ∧ St w0 X (.blk g11 36 RVC :: .own 1 r4 B4 mc.length c4 (mc.map v8) :: .blk g10 38 PC :: .blk gV 83 (vcl v A2 c2) :: .blk g7 46 RV :: .rd lA (last.map v8) :: .rd A2 SV :: .blk g2 24 PL :: L) wx)
      case first =>
       by_cases hz : 0 < nb
       ·have dz : decide ((0 : Int) < (nb : Int)) = true := by simp; omega
        have dz2 : decide (0 < nb) = true := by simpa using hz
        have dz3 : (0 : Int) < (nb : Int) := by omega
        go_wp2_with (first | ((with_reducible refine Se.isL (o := ⟨some 95, _, _, _, _, _⟩) ?_); (refine Se.toL rfl (Se.ld (o := ⟨some 95, _, _, _, _, _⟩) hs rfl rfl (Cell.blk 2 rfl K35.out) (by kernel_rfl) ?_))))
        go_meet
        exact ⟨B, bc, x.b, by rw [HNB.out], Lib.hid (by have := H100.out; rw [HNB.out] at this; exact this), Lib.hid (HBR.out.app [_, _, _, _, _, _, _]), Lib.hid (fun vv => HBR.out.app [_, _, _, _, _, _, _, _]), hs⟩
       ·have dz : decide ((0 : Int) < (nb : Int)) = false := by simp; omega
        have dz2 : decide (0 < nb) = false := by simpa using hz
        have dz3 : ¬ (0 : Int) < (nb : Int) := by omega
        go_wp2_with fail
        go_meet
        exact ⟨B4, c4, mc, rfl, Lib.hid (by have := HMC.out; omega), Lib.hid (Reads.own 1 rfl), Lib.hid (fun vv => Reads.own 1 rfl), hs⟩
      case rest =>
      clear hs
      rename World => w
      obtain ⟨B12, c12, ch, rfl, HL1, HF1, HF2, hs⟩ := hcut
      obtain ⟨v', m', E, he⟩ : ∃ v' m' E, ansS v ch bo x.N = (v', m', E) := ⟨_, _, _, rfl⟩
      have hkp := ans_kp HV.out.1 HNL.out he
      have HKP := Lib.hid (show v'.ok ∧ v'.p = p from ⟨hkp.1.1, hkp.1.2.trans HV.out.2⟩)
      have HML := Lib.hid hkp.2
      obtain ⟨vk, mk, Ek, hek⟩ : ∃ v' m E, checkS vc m' = (v', m, E) := ⟨_, _, _, rfl⟩
      have HMK := Lib.hid (check_kp HKPC.out.1 hek).2
      have CA : Hid (∀ w, St w0 X (.blk g11 36 RVC :: .own 1 r4 B4 mc.length c4 (mc.map v8) :: .blk g10 38 PC :: .blk gV 83 (vcl v A2 c2) :: .blk g7 46 RV :: .rd lA (last.map v8) :: .rd A2 SV :: .blk g2 24 PL :: L) w → Calls Tryz.prog 19 #[.pointer (some ⟨gV, 0, none⟩), .slice B12 ch.length c12, .bool bo, .agg NV.toArray] w fun e w' => MsgM w0 X [.blk g11 36 RVC, .own 1 r4 B4 mc.length c4 (mc.map v8), .blk g10 38 PC] (.blk g7 46 RV :: .rd lA (last.map v8) :: .rd A2 SV :: .blk g2 24 PL :: L) gV 83 A2 c2 v' m' m'.length E e w') := Lib.hid (fun w hs => by
       rw [HNV.out]
       exact ansM (M := [_, _, _]) hs HV.out.1 (by rw [HV.out.2, ← HSV.out]; simp) HF1.out rfl (by have := HL1.out; omega) HNL.out he rfl)
      have CRA : Hid (∀ (L' : List At) (w : World), Reads L' B12 (ch.map v8) → .rd A (p.sec.map v8) ∈ L' → St w0 X L' w → Calls Tryz.prog 14 #[.agg RV.toArray, .slice B12 ch.length c12, .bool bo, .agg NV.toArray] w fun e w' => RPro w0 X L' A c v' m' E e w') := Lib.hid (fun L' w h1 h2 hs => by
       rw [HRV.out.1, HNV.out]
       exact ransM hs s HRV.out.2 A B12 c _ c12 HV.out.1 (by rw [HV.out.2]; exact Reads.rdm h2) ch rfl h1 (by have := HL1.out; omega) bo x.N HNL.out he)
      have CRC : Hid (∀ (L' : List At) (w : World) (Bx : Option Addr) (cx : Nat), m'.length ≤ cx → Reads L' Bx (m'.map v8) → .rd A (p.sec.map v8) ∈ L' → St w0 X L' w → Calls Tryz.prog 16 #[.agg RVC.toArray, .slice Bx m'.length cx] w fun e w' => RVer w0 X L' A c vk mk Ek e w') := Lib.hid (fun L' w Bx cx h0 h1 h2 hs => by
       rw [HRVC.out]
       exact rchkM hs A Bx c _ cx HKPC.out.1 (by rw [HKPC.out.2]; exact Reads.rdm h2) m' rfl h1 h0 (by have := HML.out; omega) hek)
      clear he hkp hek
      go_upto_region 19 with (first | ((with_reducible refine Se.isL (o := ⟨some 100, _, _, _, _, _⟩) ?_); (refine Se.toL rfl (Se.ld (o := ⟨some 100, _, _, _, _, _⟩) hs rfl rfl (Cell.blk 2 rfl K36.out) (by kernel_rfl) ?_))) | ((with_reducible refine Se.isL (o := ⟨some 102, _, _, _, _, _⟩) ?_); (refine Se.toL rfl (Se.ldw (o := ⟨some 102, _, _, _, _, _⟩) hs rfl rfl (((RN.out _ _).app [_, _])) ((by rw [NL.out]; kernel_rfl)) (by kernel_rfl) ?_))) | ((with_reducible refine Se.isL (o := ⟨some 107, _, _, _, _, _⟩) ?_); (refine Se.toL rfl (Se.ldw (o := ⟨some 107, _, _, _, _, _⟩) hs rfl rfl ((Reads.blk 5 rfl)) ((by rw [RVL.out]; kernel_rfl)) (by kernel_rfl) ?_))) | ((with_reducible refine Se.isL (o := ⟨some 110, _, _, _, _, _⟩) ?_); (refine Se.toL rfl (Se.ld (o := ⟨some 110, _, _, _, _, _⟩) hs rfl rfl (Cell.blk 3 rfl K36.out) (by kernel_rfl) ?_))) | ((with_reducible refine Se.isL (o := ⟨some 112, _, _, _, _, _⟩) ?_); (refine Se.toL rfl (Se.ldw (o := ⟨some 112, _, _, _, _, _⟩) hs rfl rfl (((RN.out _ _).app [_, _, _])) ((by rw [NL.out]; kernel_rfl)) (by kernel_rfl) ?_))) | ((with_reducible refine Se.isL (o := ⟨some 16, _, _, _, _, _⟩) ?_); (refine Se.toL rfl (Se.al (o := ⟨some 16, _, _, _, _, _⟩) hs rfl (aI.out) ?_); clear hs; rintro w g16 - hs)) | ((with_reducible refine Se.isL (o := ⟨none, _, _, _, _, _⟩) ?_); (refine Se.toL rfl (Se.sow 0 hs rfl rfl rfl rfl ((by rw [HRQ.out]; exact rps_one _ _ _ _)) ((by rw [HRQ.out, rps_len HKP.out.1.n]; kernel_rfl)) ((by rw [HRQ.out, rps_len HKP.out.1.n, ZL.out])) ?_); clear hs; intro w hs; try simp only [List.cons_append, List.nil_append, List.set_cons_zero] at hs)) | (go_at_call 19; refine Calls.mono (CA.out _ hs) ?_; clear hs; rintro e w ⟨r3, A3, c3, rfl, hs⟩) | (go_at_call 14; refine Calls.mono (CRA.out _ _ ((HF2.out _).cons _) (by simp [hr0.out]) hs) ?_; clear hs; rintro e w ⟨r5, B5, c5, s5, RQ, HSO5, HRQ, rfl, hcap, hs⟩))
      have RQL := Lib.hid (show RQ.length = 38 by rw [HRQ.out]; exact rps_len HKP.out.1.n _ _ _)
      have RQO := Lib.hid (show ∀ x ∈ RQ, x.oneCell' = true by rw [HRQ.out]; exact rps_one _ _ _ _)
      have HCAP5 := Lib.hid hcap
      clear CA CRA hcap
      go_upto_region 20 with (first | ((with_reducible refine Se.isL (o := ⟨some 117, _, _, _, _, _⟩) ?_); (refine Se.toL rfl (Se.ldw (o := ⟨some 117, _, _, _, _, _⟩) hs rfl rfl ((Reads.blk 0 rfl)) ((by rw [RQL.out]; kernel_rfl)) (by kernel_rfl) ?_))) | ((with_reducible refine Se.isL (o := ⟨none, _, _, _, _, _⟩) ?_); (refine Se.toL rfl (Se.sow 7 hs rfl rfl rfl rfl (RQO.out) ((by rw [RQL.out]; kernel_rfl)) ((by rw [RQL.out, RVL.out])) ?_); clear hs; intro w hs; try simp only [List.cons_append, List.nil_append, List.set_cons_zero, List.set_cons_succ] at hs)))
      go_wp2_with (first | ((with_reducible refine Se.isL (o := ⟨some 128, _, _, _, _, _⟩) ?_); (refine Se.toL rfl (Se.ldw (o := ⟨some 128, _, _, _, _, _⟩) hs rfl rfl ((Reads.blk 3 rfl)) ((by rw [RVCL.out]; kernel_rfl)) (by kernel_rfl) ?_))) | (go_at_call 12; refine Calls.mono (sameM hs rfl (Reads.own 2 rfl) (Reads.own 1 rfl)) ?_; clear hs; rintro e w ⟨rfl, hs⟩) | (go_at_call 16; refine Calls.mono (CRC.out _ _ _ _ HCAP5.out (Reads.own 1 rfl) (by simp [hr0.out]) hs) ?_; clear hs; rintro e w ⟨r6, B6, c6, RVK, HRVK, rfl, hcap6, hs⟩))
      go_meet
      replace hs := hs.own_rd
      replace hs := hs.pull 9 rfl
      replace hs := hs.pull 7 rfl
      replace hs := hs.pull 7 rfl
      replace hs := hs.pull 7 rfl
      replace hs := hs.pull 7 rfl
      replace hs := hs.pull 7 rfl
      replace hs := hs.pull 7 rfl
      replace hs := hs.pull 11 rfl
      replace hs := hs.pull 11 rfl
      replace hs := hs.pull 9 rfl
      replace hs := hs.pull 11 rfl
      replace hs := hs.pull 11 rfl
      simp only [List.eraseIdx_cons_succ, List.eraseIdx_cons_zero] at hs
      exact ⟨v', s5, RQ, B6, c6, mk, rfl, HKP, Lib.hid ⟨HRQ.out, HSO5.out⟩, Lib.hid ⟨HMK.out, hcap6⟩, hs.sub (by repeat (first | exact List.Sublist.refl _ | refine List.Sublist.cons_cons _ ?_ | refine List.Sublist.cons _ ?_))⟩
     ·have dk : (k == 0) = false := by simpa using hk0
      have SB := Lib.hid (show ∀ y ∈ x.b.map v8, y.oneCell' = true from v8_one _)
      go_upto_if 139 with (first | ((with_reducible refine Se.isL (o := ⟨some 135, _, _, _, _, _⟩) ?_); (refine Se.toL rfl (Se.ld (o := ⟨some 135, _, _, _, _, _⟩) hs rfl rfl (Cell.blk 0 rfl K35.out) (by kernel_rfl) ?_))) | ((with_reducible refine Se.isL (o := ⟨some 138, _, _, _, _, _⟩) ?_); (refine Se.toL rfl (Se.ld (o := ⟨some 138, _, _, _, _, _⟩) hs rfl rfl (Cell.blk 1 rfl K0.out) (by kernel_rfl) ?_))) | (go_at_call 13; refine Calls.mono (own_st hs (HBR.out.app [_, _, _, _, _, _]) SB.out (by rw [HNB.out]; simp) (by have := H100.out; omega)) ?_; clear hs; rintro e w ⟨A3, c3, r3, rfl, hs⟩))
      clear SB
      go_cut [19] (fun s19 wx => ∃ (B19 : Option Addr) (c19 : Nat) (rp : Bs), s19 = .slice B19 rp.length c19 ∧ Hid (rp.length ≤ 100) ∧ Hid (rp.length ≤ c19) ∧ Hid (∀ vv : List Value, Reads (.own 1 r3 A3 nb c3 (x.b.map v8) :: .blk g10 38 PC :: .blk g7 46 vv :: .rd lA (last.map v8) :: .rd A2 SV :: .blk g2 24 PL :: L) B19 (rp.map v8)) ∧ Hid (Reads (.own 1 r3 A3 nb c3 (x.b.map v8) :: .blk g10 38 PC :: .blk gV 83 (vcl v A2 c2) :: .blk g7 46 RV :: .rd lA (last.map v8) :: .rd A2 SV :: .blk g2 24 PL :: L) B19 (rp.map v8)) ∧ St w0 X (.own 1 r3 A3 nb c3 (x.b.map v8) :: .blk g10 38 PC :: .blk gV 83 (vcl v A2 c2) :: .blk g7 46 RV :: .rd lA (last.map v8) :: .rd A2 SV :: .blk g2 24 PL :: L) wx)
      case first =>
       by_cases hk2 : k = 2
       ·have dk2 : (k == 2) = true := by rw [hk2]; rfl
        clear hk2
        go_wp2_with fail
        go_meet
        exact ⟨lA, lc, last, rfl, Lib.hid (by have := HLL.out.1; omega), Lib.hid HLL.out.2, Lib.hid (fun vv => Reads.rd 3 rfl), Lib.hid (Reads.rd 4 rfl), hs⟩
       ·have dk2 : (k == 2) = false := by simpa using hk2
        go_wp2_with fail
        go_meet
        exact ⟨A3, c3, x.b, by rw [HNB.out], Lib.hid (by have := H100.out; rw [HNB.out] at this; exact this), Lib.hid (by have := own_cap hs; rw [HNB.out] at this; exact this), Lib.hid (fun vv => Reads.own 0 rfl), Lib.hid (Reads.own 0 rfl), hs⟩
      case rest =>
      clear hs
      rename World => w
      obtain ⟨B19, c19, rp, rfl, HL1, HL2, HF1, HF2, hs⟩ := hcut
      obtain ⟨v', E, he⟩ : ∃ v' E, finS v rp = (v', E) := ⟨_, _, rfl⟩
      have hkp := fin_kp HV.out.1 he
      have HKP := Lib.hid (show v'.ok ∧ v'.p = p from ⟨hkp.1, hkp.2.trans HV.out.2⟩)
      have CR : Hid (∀ w, St w0 X (.own 1 r3 A3 nb c3 (x.b.map v8) :: .blk g10 38 PC :: .blk gV 83 (vcl v A2 c2) :: .blk g7 46 RV :: .rd lA (last.map v8) :: .rd A2 SV :: .blk g2 24 PL :: L) w → Calls Tryz.prog 20 #[.agg RV.toArray, .slice B19 rp.length c19] w fun e w' => ∃ s' RQ, Hid (SOk v' s') ∧ Hid (RQ = rps v' s' A c) ∧ e = .returned (.tuple #[.agg RQ.toArray, .int .i64 E]) ∧ St w0 X (.own 1 r3 A3 nb c3 (x.b.map v8) :: .blk g10 38 PC :: .blk gV 83 (vcl v A2 c2) :: .blk g7 46 RV :: .rd lA (last.map v8) :: .rd A2 SV :: .blk g2 24 PL :: L) w') := Lib.hid (fun w hs => by
       rw [HRV.out.1]
       rw [HRV.out.1] at hs
       exact rfinM hs s HRV.out.2 A B19 c _ c19 HV.out.1 (by rw [HV.out.2]; exact Reads.rdm (by simp [hr0.out])) rp rfl (by have h := HF2.out; rw [HRV.out.1] at h; exact h) HL2.out (by have := HL1.out; omega) he)
      clear hkp
      go_upto_region 27 with (first | ((with_reducible refine Se.isL (o := ⟨some 142, _, _, _, _, _⟩) ?_); (refine Se.toL rfl (Se.ldw (o := ⟨some 142, _, _, _, _, _⟩) hs rfl rfl ((Reads.blk 3 rfl)) ((by rw [RVL.out]; kernel_rfl)) (by kernel_rfl) ?_))) | ((with_reducible refine Se.isL (o := ⟨some 20, _, _, _, _, _⟩) ?_); (refine Se.toL rfl (Se.al (o := ⟨some 20, _, _, _, _, _⟩) hs rfl (aI.out) ?_); clear hs; rintro w g20 - hs)) | ((with_reducible refine Se.isL (o := ⟨none, _, _, _, _, _⟩) ?_); (refine Se.toL rfl (Se.sow 0 hs rfl rfl rfl rfl ((by rw [HRQ.out]; exact rps_one _ _ _ _)) ((by rw [HRQ.out, rps_len HKP.out.1.n]; kernel_rfl)) ((by rw [HRQ.out, rps_len HKP.out.1.n, ZL.out])) ?_); clear hs; intro w hs; try simp only [List.cons_append, List.nil_append, List.set_cons_zero] at hs)) | (go_at_call 20; refine Calls.mono (CR.out _ hs) ?_; clear hs; rintro e w ⟨s5, RQ, HSO5, HRQ, rfl, hs⟩))
      have RQL := Lib.hid (show RQ.length = 38 by rw [HRQ.out]; exact rps_len HKP.out.1.n _ _ _)
      have RQO := Lib.hid (show ∀ x ∈ RQ, x.oneCell' = true by rw [HRQ.out]; exact rps_one _ _ _ _)
      have HE := Lib.hid he
      clear CR he
      go_upto_region 28 with (first | ((with_reducible refine Se.isL (o := ⟨some 147, _, _, _, _, _⟩) ?_); (refine Se.toL rfl (Se.ldw (o := ⟨some 147, _, _, _, _, _⟩) hs rfl rfl ((Reads.blk 0 rfl)) ((by rw [RQL.out]; kernel_rfl)) (by kernel_rfl) ?_))) | ((with_reducible refine Se.isL (o := ⟨none, _, _, _, _, _⟩) ?_); (refine Se.toL rfl (Se.sow 4 hs rfl rfl rfl rfl (RQO.out) ((by rw [RQL.out]; kernel_rfl)) ((by rw [RQL.out, RVL.out])) ?_); clear hs; intro w hs; try simp only [List.cons_append, List.nil_append, List.set_cons_zero, List.set_cons_succ] at hs)))
      go_wp2_with (first | (go_at_call 21; refine Calls.mono (finM (M := [_, _, _]) hs HV.out.1 (by rw [HV.out.2, ← HSV.out]; simp) ((HF1.out _).cons _) rfl (by have := HL1.out; omega) HE.out) ?_; clear hs; rintro e w ⟨rfl, hs⟩))
      go_meet
      exact ⟨v', s5, RQ, lA, lc, last, rfl, HKP, Lib.hid ⟨HRQ.out, HSO5.out⟩, HLL, hs.drop.drop.drop⟩
    case rest =>
    clear hs
    rename World => w
    obtain ⟨v', s', RV', lA', lc', last', rfl, HV', HRV', HLL', hs⟩ := hcut
    obtain ⟨dd, hdd⟩ : ∃ dd, v'.d = dd := ⟨_, rfl⟩
    have HDD := Lib.hid hdd
    have R37 := Lib.hid (show RV'[37]? = some (.bool dd) by rw [HRV'.out.1, ← hdd]; exact rps_37 HV'.out.1.n _ _ _)
    clear hdd
    go_upto_region 30 with (fail)
    refine Ch.region' 5 (fun wx => Blk wx g7 RV' 46) (fun | 1 => true | _ => false) (by kernel_rfl) (by decide +kernel) (hs.drew.hold (.blk g7 46 RV') (by simp)) ?_
    replace hs := hs.drew
    generalize w.drew = w at hs ⊢
    change Ch.CW _ _ _ _ _ [0, 1, 2, 3, 4] _ _
    iterate 1 ((first | (refine Ch.pure (v := ?_) (by rfl) (by rfl) (by rfl) (fun wx hS => ?_) ?_; rotate_left; (focus (go_simp; (first | done | with_reducible rfl))))); (try simp only [Act.put, List.setIfInBounds_toArray, List.set_cons_zero, List.set_cons_succ]))
    refine Ch.noise (by rfl) (by rfl) (by rfl) ?_
    refine Se.gcall (f := 22) (args := #[.pointer (some ⟨gV, 0, none⟩)]) ?_ ?_
    ·go_simp
    refine Calls.mono (proDoneM (M := []) hs HV'.out.1.n HDD.out) ?_
    clear hs
    rintro e w ⟨rfl, hs⟩
    refine ⟨_, rfl, hs.hold (.blk g7 46 RV') (by simp), ?_⟩
    (try simp only [Act.put, List.setIfInBounds_toArray, List.set_cons_zero, List.set_cons_succ])
    iterate 2 ((first | (refine Ch.pure (v := ?_) (by rfl) (by rfl) (by rfl) (fun wx hS => ?_) ?_; rotate_left; (focus (go_simp; (first | done | with_reducible rfl)))) | refine Ch.pure (v := _) (by rfl) (by rfl) (by rfl) (fun wx hS => Se.xl rfl rfl ((hS.cell _).trans R37.out) (by decide +kernel)) ?_); (try simp only [Act.put, List.setIfInBounds_toArray, List.set_cons_zero, List.set_cons_succ]))
    iterate 1 (refine Ch.pure (v := ?_) (by rfl) (by rfl) (by rfl) (fun wx hS => ?_) ?_; rotate_left; (focus (go_simp; (first | done | with_reducible rfl))); (try simp only [Act.put, List.setIfInBounds_toArray, List.set_cons_zero, List.set_cons_succ]))
    refine Ch.done ?_
    try simp only [List.drop_succ_cons, List.drop_zero]
    go_wp2_with fail
    go_roundg (n - (i + 1))
    case measure => omega
    case rel =>
     have h20 := H20.out
     exact ⟨i + 1, v', s', RV', lA', lc', last', rfl, by omega, rfl, congrArg (Value.int .i64) ((IntWalk.wrap64_in ((i : Int) + 1) (by omega)).trans (by omega)), HV', HRV', HLL', hs⟩
   ·obtain rfl : i = n := by omega
    go_wp2_with (first | (go_at_call 7; refine Calls.mono (known_st hs) ?_; clear hs; rintro e w ⟨rfl, hs⟩))
    go_ret
    exact ⟨rfl, hs.drop.drop.drop.drop.drop⟩
theorem proves_any (W : World) (p : Pn) {A : Option Addr} {c : Nat} (hr : Rd W A (p.sec.map v8)) {LA : Option Addr} {n ca : Nat} {R : List (List Value)} {qs : List (Ac × Option Addr × Nat)} (hn : n = (qs.map (·.1)).length) (hA : Rd W LA R.flatten) (hq : ∀ q ∈ qs, Rd W q.2.1 (q.1.b.map v8)) (hS : AS (rds (qs.map fun q => (q.2.1, q.1.b.map v8))) R (qs.map (·.1))) :
  Calls Tryz.prog 4 #[.agg (pcl p A c).toArray, .slice LA n ca] W fun e w' => e = .returned (.bool true) ∧ Below W.heap.size W w' := by
 have h0 : St W [] (rds ((A, p.sec.map v8) :: (LA, R.flatten) :: qs.map fun q => (q.2.1, q.1.b.map v8))) W := start_rds (by
  intro q h
  rcases List.mem_cons.1 h with rfl | h
  ·exact hr
  rcases List.mem_cons.1 h with rfl | h
  ·exact hA
  ·obtain ⟨y, hy, rfl⟩ := List.mem_map.1 h
   exact hq y hy)
 exact (proves_st h0 p A c (by unfold rds; simp) hn (rds_mem (List.mem_cons_of_mem _ List.mem_cons_self)) (hS.rds (fun q h => List.mem_cons_of_mem _ (List.mem_cons_of_mem _ h)))).mono fun e w' h => ⟨h.1, h.2.below⟩
end Au
end Go.Proofs.YtakdoijemopejaaGreat

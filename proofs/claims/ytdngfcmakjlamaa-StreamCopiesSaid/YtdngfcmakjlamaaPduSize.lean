/- Layer 35: Size. No condition but Go's own limits. -/
import Derived.Test.YtdngfcmakjlamaaPduValid
set_option linter.unusedSimpArgs false
set_option linter.unusedVariables false
namespace Go.Proofs.Ytdngfcmakjlamaa
open Go Go.RowKit
namespace Pd
open Se (St At Reads Cell)
open Li (v8 v8_one Rd Blk Fr)
open Bv (n8 n16 n32 n64)
variable {w0 w : World} {X : List Nat} {L : List At}
attribute [local irreducible] Calls
def sizeE (p : PDU) (f : Fm) : Nat × Nat := if framed f = true then if valid p = true then (size p f, 0) else (0, 2) else (0, 2)
def fl (f : Fm) : List Value := [.bool f.hd, .bool f.dd, .int .i64 f.al]
theorem fv_eq (f : Fm) : fv f = .agg (fl f).toArray := rfl
set_option maxRecDepth 100000 in
set_option maxHeartbeats 4000000 in
theorem sizeP_st (hs : St w0 X L w) (p : PDU) (f : Fm) {EA DA : Option Addr} {en ec dn dc : Nat} (hE : Reads L EA (p.en.map v8)) (hD : Reads L DA (p.da.map v8)) (he : en = p.en.length) (hd : dn = p.da.length) (le : en ≤ 70368744177664) (ld : dn ≤ 70368744177664) {n e : Nat} (hr : sizeE p f = (n, e)) :
  Calls Try.prog 50 #[.agg (pc p.h EA en ec DA dn dc).toArray, fv f] w fun e' w' => e' = .returned (.tuple #[iv n, iv e]) ∧ St w0 X L w' := by
 obtain ⟨k, hk⟩ : ∃ k, k = p.h.k.toNat := ⟨_, rfl⟩
 have hkl : k < 256 := by rw [hk]; exact p.h.k.isLt
 obtain ⟨P, hP⟩ : ∃ P, P = pc p.h EA en ec DA dn dc := ⟨_, rfl⟩
 obtain ⟨F, hF⟩ : ∃ F, F = fl f := ⟨_, rfl⟩
 obtain ⟨xs, hxs⟩ : ∃ xs, shV k = xs := ⟨_, rfl⟩
 obtain ⟨b0, hb0⟩ : ∃ b0, decide (hdr k ≠ 0) = b0 := ⟨_, rfl⟩
 obtain ⟨b1, hb1⟩ : ∃ b1, framed f = b1 := ⟨_, rfl⟩
 obtain ⟨b2, hb2⟩ : ∃ b2, valid p = b2 := ⟨_, rfl⟩
 obtain ⟨b3, hb3⟩ : ∃ b3, decide (0 < dn) = b3 := ⟨_, rfl⟩
 obtain ⟨h, hh⟩ : ∃ h, hsum k f = h := ⟨_, rfl⟩
 obtain ⟨d, hdd⟩ : ∃ d, dsum k f b3 = d := ⟨_, rfl⟩
 obtain ⟨s, hst⟩ : ∃ s, start k f = s := ⟨_, rfl⟩
 obtain ⟨q, hq⟩ : ∃ q, hdr k = q := ⟨_, rfl⟩
 have hql : q ≤ 128 := by rw [← hq]; exact hdr_le k
 have hhl : h ≤ 4 := by rw [← hh]; exact hsum_le k f
 have hdl : d ≤ 4 := by rw [← hdd]; exact dsum_le k f b3
 have hsl : b1 = true → s ≤ 260 := by rw [← hst, ← hb1]; exact start_le k
 have HR : Hid ((if b1 = true then if b2 = true then (if b3 = true then (s + dn + d, 0) else (q + h, 0)) else (0, 2) else (0, 2)) = (n, e)) := Lib.hid (by
  rw [← hr, ← hb1, ← hb2, ← hst, ← hdd, ← hh, ← hq, ← hb3]
  unfold sizeE size ds Pd.hs
  rw [← hk, hd]
  by_cases h0 : 0 < p.da.length <;> simp [h0])
 have PL := Lib.hid (show P.length = 14 by rw [hP]; rfl)
 have P0 := Lib.hid (show P[0]? = some (.int .u8 (k : Int)) by rw [hP, hk]; rfl)
 have P13 := Lib.hid (show P[13]? = some (.slice DA dn dc) by rw [hP]; rfl)
 have FL := Lib.hid (show F.length = 3 by rw [hF]; rfl)
 have XL := Lib.hid (show xs.length = 7 by rw [← hxs, shV_eq]; rfl)
 have X0 := Lib.hid (show xs[0]? = some (iv q) by rw [← hxs, shV_eq, hq]; rfl)
 have XO := Lib.hid (show ∀ v ∈ xs, v.oneCell' = true by rw [← hxs]; exact shV_one k)
 have ZS := Lib.hid zShape
 have ZSL := Lib.hid (show (shV 8).length = 7 by rw [shV_eq]; rfl)
 have CO : Hid (∀ (L' : List At) (w : World), St w0 X (L' ++ L) w → Calls Try.prog 51 #[.int .u8 k] w fun e w' => e = .returned (.tuple #[.agg xs.toArray, .bool b0]) ∧ St w0 X (L' ++ L) w') := Lib.hid (fun L' w hs => of_st hs k hkl hb0 hxs)
 have CF : Hid (∀ (L' : List At) (w : World), St w0 X (L' ++ L) w → Calls Try.prog 63 #[.agg F.toArray] w fun e w' => e = .returned (.bool b1) ∧ St w0 X (L' ++ L) w') := Lib.hid (fun L' w hs => by rw [hF, ← fv_eq, ← hb1]; exact validFraming_st hs f)
 have CV : Hid (∀ (L' : List At) (w : World), St w0 X (L' ++ L) w → Calls Try.prog 64 #[.agg P.toArray] w fun e w' => e = .returned (.bool b2) ∧ St w0 X (L' ++ L) w') := Lib.hid (fun L' w hs => by rw [hP]; exact validP_st hs p (hE.app L') (hD.app L') he hd le ld hb2)
 have CD : Hid (∀ (L' : List At) (w : World), St w0 X (L' ++ L) w → Calls Try.prog 52 #[.int .u8 k, .agg F.toArray, .bool b3] w fun e w' => e = .returned (.tuple #[iv h, iv d]) ∧ St w0 X (L' ++ L) w') := Lib.hid (fun L' w hs => by rw [hF, ← fv_eq]; exact digests_st hs k f b3 hh hdd)
 have CS : Hid (b1 = true → ∀ (L' : List At) (w : World), St w0 X (L' ++ L) w → Calls Try.prog 53 #[.int .u8 k, .agg xs.toArray, .agg F.toArray] w fun e w' => e = .returned (iv s) ∧ St w0 X (L' ++ L) w') := Lib.hid (fun hb L' w hs => by rw [hF, ← fv_eq]; exact start_st hs k (by rw [hb1]; exact hb) hxs hst)
 rw [← hP, fv_eq, ← hF]
 clear hP hF hxs hb0 hb1 hb2 hh hdd hst hq hr hk hkl hE hD he hd le
 cases b1 with
 | false =>
  obtain ⟨rfl, rfl⟩ : n = 0 ∧ e = 2 := by have := HR.out; simp at this; exact ⟨this.1.symm, this.2.symm⟩
  clear hb3
  go_enter Try.func50, Try.ntmps50
  go_wp2_with (first | ((with_reducible refine Se.isL (o := ⟨some 12, _, _, _, _, _⟩) ?_); (refine Se.toL rfl (Se.ld (o := ⟨some 12, _, _, _, _, _⟩) hs rfl rfl (Cell.blk 1 rfl P0.out) (by kernel_rfl) ?_))) | ((with_reducible refine Se.isL (o := ⟨some 6, _, _, _, _, _⟩) ?_); (refine Se.toL rfl (Se.al (o := ⟨some 6, _, _, _, _, _⟩) hs rfl (ZS.out) ?_); clear hs; rintro w g6 - hs)) | ((with_reducible refine Se.isL (o := ⟨none, Op.store 99 _ _, _, _, _, _⟩) ?_); (refine Se.toL rfl (Se.sow 0 hs rfl rfl rfl rfl (XO.out) ((by rw [XL.out]; kernel_rfl)) ((by rw [XL.out, ZSL.out])) ?_); clear hs; intro w hs; try simp only [List.cons_append, List.nil_append, List.set_cons_zero] at hs)) | ((with_reducible refine Se.isL (o := ⟨some 16, _, _, _, _, _⟩) ?_); (refine Se.toL rfl (Se.ldw (o := ⟨some 16, _, _, _, _, _⟩) hs rfl rfl ((Reads.blk 1 rfl)) ((by rw [FL.out]; kernel_rfl)) (by kernel_rfl) ?_))) | ((first | with_reducible refine Se.ab hs ?_ | with_reducible refine Se.abc hs ?_); clear hs; (first | ((fail_if_success (have _q := g2)); generalize w.heap.size = g2; intro w hs) | (generalize w.heap.size = g3; intro w hs))) | (go_at_call 51; refine Calls.mono (CO.out [_, _] _ hs) ?_; clear hs; rintro e w ⟨rfl, hs⟩) | (go_at_call 63; refine Calls.mono (CF.out [_, _, _] _ hs) ?_; clear hs; rintro e w ⟨rfl, hs⟩))
  go_ret2
  exact ⟨rfl, hs.drop.drop.drop⟩
 | true =>
  have hsl := hsl rfl
  cases b2 with
  | false =>
   obtain ⟨rfl, rfl⟩ : n = 0 ∧ e = 2 := by have := HR.out; simp at this; exact ⟨this.1.symm, this.2.symm⟩
   clear hb3
   go_enter Try.func50, Try.ntmps50
   go_wp2_with (first | ((with_reducible refine Se.isL (o := ⟨some 12, _, _, _, _, _⟩) ?_); (refine Se.toL rfl (Se.ld (o := ⟨some 12, _, _, _, _, _⟩) hs rfl rfl (Cell.blk 1 rfl P0.out) (by kernel_rfl) ?_))) | ((with_reducible refine Se.isL (o := ⟨some 6, _, _, _, _, _⟩) ?_); (refine Se.toL rfl (Se.al (o := ⟨some 6, _, _, _, _, _⟩) hs rfl (ZS.out) ?_); clear hs; rintro w g6 - hs)) | ((with_reducible refine Se.isL (o := ⟨none, Op.store 99 _ _, _, _, _, _⟩) ?_); (refine Se.toL rfl (Se.sow 0 hs rfl rfl rfl rfl (XO.out) ((by rw [XL.out]; kernel_rfl)) ((by rw [XL.out, ZSL.out])) ?_); clear hs; intro w hs; try simp only [List.cons_append, List.nil_append, List.set_cons_zero] at hs)) | ((with_reducible refine Se.isL (o := ⟨some 16, _, _, _, _, _⟩) ?_); (refine Se.toL rfl (Se.ldw (o := ⟨some 16, _, _, _, _, _⟩) hs rfl rfl ((Reads.blk 1 rfl)) ((by rw [FL.out]; kernel_rfl)) (by kernel_rfl) ?_))) | ((with_reducible refine Se.isL (o := ⟨some 20, _, _, _, _, _⟩) ?_); (refine Se.toL rfl (Se.ldw (o := ⟨some 20, _, _, _, _, _⟩) hs rfl rfl ((Reads.blk 2 rfl)) ((by rw [PL.out]; kernel_rfl)) (by kernel_rfl) ?_))) | ((first | with_reducible refine Se.ab hs ?_ | with_reducible refine Se.abc hs ?_); clear hs; (first | ((fail_if_success (have _q := g2)); generalize w.heap.size = g2; intro w hs) | (generalize w.heap.size = g3; intro w hs))) | (go_at_call 51; refine Calls.mono (CO.out [_, _] _ hs) ?_; clear hs; rintro e w ⟨rfl, hs⟩) | (go_at_call 63; refine Calls.mono (CF.out [_, _, _] _ hs) ?_; clear hs; rintro e w ⟨rfl, hs⟩) | (go_at_call 64; refine Calls.mono (CV.out [_, _, _] _ hs) ?_; clear hs; rintro e w ⟨rfl, hs⟩))
   go_ret2
   exact ⟨rfl, hs.drop.drop.drop⟩
  | true =>
   cases b3 with
   | false =>
    obtain rfl : dn = 0 := by simpa using hb3
    obtain ⟨rfl, rfl⟩ : n = q + h ∧ e = 0 := by have := HR.out; simp at this; exact ⟨this.1.symm, this.2.symm⟩
    have e1 : IntKind.i64.wrap ((q : Int) + (h : Int)) = ((q + h : Nat) : Int) := by rw [IntWalk.i64_in _ (by omega)]; omega
    clear hb3
    go_enter Try.func50, Try.ntmps50
    go_wp2_with (first | ((with_reducible refine Se.isL (o := ⟨some 12, _, _, _, _, _⟩) ?_); (refine Se.toL rfl (Se.ld (o := ⟨some 12, _, _, _, _, _⟩) hs rfl rfl (Cell.blk 1 rfl P0.out) (by kernel_rfl) ?_))) | ((with_reducible refine Se.isL (o := ⟨some 6, _, _, _, _, _⟩) ?_); (refine Se.toL rfl (Se.al (o := ⟨some 6, _, _, _, _, _⟩) hs rfl (ZS.out) ?_); clear hs; rintro w g6 - hs)) | ((with_reducible refine Se.isL (o := ⟨none, Op.store 99 _ _, _, _, _, _⟩) ?_); (refine Se.toL rfl (Se.sow 0 hs rfl rfl rfl rfl (XO.out) ((by rw [XL.out]; kernel_rfl)) ((by rw [XL.out, ZSL.out])) ?_); clear hs; intro w hs; try simp only [List.cons_append, List.nil_append, List.set_cons_zero] at hs)) | ((with_reducible refine Se.isL (o := ⟨some 16, _, _, _, _, _⟩) ?_); (refine Se.toL rfl (Se.ldw (o := ⟨some 16, _, _, _, _, _⟩) hs rfl rfl ((Reads.blk 1 rfl)) ((by rw [FL.out]; kernel_rfl)) (by kernel_rfl) ?_))) | ((with_reducible refine Se.isL (o := ⟨some 20, _, _, _, _, _⟩) ?_); (refine Se.toL rfl (Se.ldw (o := ⟨some 20, _, _, _, _, _⟩) hs rfl rfl ((Reads.blk 2 rfl)) ((by rw [PL.out]; kernel_rfl)) (by kernel_rfl) ?_))) | ((with_reducible refine Se.isL (o := ⟨some 26, _, _, _, _, _⟩) ?_); (refine Se.toL rfl (Se.ld (o := ⟨some 26, _, _, _, _, _⟩) hs rfl rfl (Cell.blk 2 rfl P0.out) (by kernel_rfl) ?_))) | ((with_reducible refine Se.isL (o := ⟨some 27, _, _, _, _, _⟩) ?_); (refine Se.toL rfl (Se.ldw (o := ⟨some 27, _, _, _, _, _⟩) hs rfl rfl ((Reads.blk 1 rfl)) ((by rw [FL.out]; kernel_rfl)) (by kernel_rfl) ?_))) | ((with_reducible refine Se.isL (o := ⟨some 29, _, _, _, _, _⟩) ?_); (refine Se.toL rfl (Se.ld (o := ⟨some 29, _, _, _, _, _⟩) hs rfl rfl (Cell.blk 2 rfl P13.out) (by kernel_rfl) ?_))) | ((with_reducible refine Se.isL (o := ⟨some 36, _, _, _, _, _⟩) ?_); (refine Se.toL rfl (Se.ld (o := ⟨some 36, _, _, _, _, _⟩) hs rfl rfl (Cell.blk 2 rfl P13.out) (by kernel_rfl) ?_))) | ((with_reducible refine Se.isL (o := ⟨some 40, _, _, _, _, _⟩) ?_); (refine Se.toL rfl (Se.ld (o := ⟨some 40, _, _, _, _, _⟩) hs rfl rfl (Cell.blk 0 rfl X0.out) (by kernel_rfl) ?_))) | ((first | with_reducible refine Se.ab hs ?_ | with_reducible refine Se.abc hs ?_); clear hs; (first | ((fail_if_success (have _q := g2)); generalize w.heap.size = g2; intro w hs) | (generalize w.heap.size = g3; intro w hs))) | (go_at_call 51; refine Calls.mono (CO.out [_, _] _ hs) ?_; clear hs; rintro e w ⟨rfl, hs⟩) | (go_at_call 63; refine Calls.mono (CF.out [_, _, _] _ hs) ?_; clear hs; rintro e w ⟨rfl, hs⟩) | (go_at_call 64; refine Calls.mono (CV.out [_, _, _] _ hs) ?_; clear hs; rintro e w ⟨rfl, hs⟩) | (go_at_call 52; refine Calls.mono (CD.out [_, _, _] _ hs) ?_; clear hs; rintro e w ⟨rfl, hs⟩))
    go_ret2
    exact ⟨rfl, hs.drop.drop.drop⟩
   | true =>
    have hdp : 0 < dn := by simpa using hb3
    obtain ⟨rfl, rfl⟩ : n = s + dn + d ∧ e = 0 := by have := HR.out; simp at this; exact ⟨this.1.symm, this.2.symm⟩
    have e0 : ((dn : Int) == 0) = false := by simp; omega
    have e1 : IntKind.i64.wrap ((s : Int) + (dn : Int)) = ((s + dn : Nat) : Int) := by rw [IntWalk.i64_in _ (by omega)]; omega
    have EW : Hid (IntKind.i64.wrap ((s : Int) + (dn : Int) + (d : Int)) = ((s + dn + d : Nat) : Int)) := Lib.hid (by rw [IntWalk.i64_in _ (by omega)]; omega)
    have CS1 := Lib.hid (CS.out rfl)
    clear hdp CS
    go_enter Try.func50, Try.ntmps50
    go_upto_region 7 with (first | ((with_reducible refine Se.isL (o := ⟨some 12, _, _, _, _, _⟩) ?_); (refine Se.toL rfl (Se.ld (o := ⟨some 12, _, _, _, _, _⟩) hs rfl rfl (Cell.blk 1 rfl P0.out) (by kernel_rfl) ?_))) | ((with_reducible refine Se.isL (o := ⟨some 6, _, _, _, _, _⟩) ?_); (refine Se.toL rfl (Se.al (o := ⟨some 6, _, _, _, _, _⟩) hs rfl (ZS.out) ?_); clear hs; rintro w g6 - hs)) | ((with_reducible refine Se.isL (o := ⟨none, Op.store 99 _ _, _, _, _, _⟩) ?_); (refine Se.toL rfl (Se.sow 0 hs rfl rfl rfl rfl (XO.out) ((by rw [XL.out]; kernel_rfl)) ((by rw [XL.out, ZSL.out])) ?_); clear hs; intro w hs; try simp only [List.cons_append, List.nil_append, List.set_cons_zero] at hs)) | ((with_reducible refine Se.isL (o := ⟨some 16, _, _, _, _, _⟩) ?_); (refine Se.toL rfl (Se.ldw (o := ⟨some 16, _, _, _, _, _⟩) hs rfl rfl ((Reads.blk 1 rfl)) ((by rw [FL.out]; kernel_rfl)) (by kernel_rfl) ?_))) | ((with_reducible refine Se.isL (o := ⟨some 20, _, _, _, _, _⟩) ?_); (refine Se.toL rfl (Se.ldw (o := ⟨some 20, _, _, _, _, _⟩) hs rfl rfl ((Reads.blk 2 rfl)) ((by rw [PL.out]; kernel_rfl)) (by kernel_rfl) ?_))) | ((with_reducible refine Se.isL (o := ⟨some 26, _, _, _, _, _⟩) ?_); (refine Se.toL rfl (Se.ld (o := ⟨some 26, _, _, _, _, _⟩) hs rfl rfl (Cell.blk 2 rfl P0.out) (by kernel_rfl) ?_))) | ((with_reducible refine Se.isL (o := ⟨some 27, _, _, _, _, _⟩) ?_); (refine Se.toL rfl (Se.ldw (o := ⟨some 27, _, _, _, _, _⟩) hs rfl rfl ((Reads.blk 1 rfl)) ((by rw [FL.out]; kernel_rfl)) (by kernel_rfl) ?_))) | ((with_reducible refine Se.isL (o := ⟨some 29, _, _, _, _, _⟩) ?_); (refine Se.toL rfl (Se.ld (o := ⟨some 29, _, _, _, _, _⟩) hs rfl rfl (Cell.blk 2 rfl P13.out) (by kernel_rfl) ?_))) | ((with_reducible refine Se.isL (o := ⟨some 36, _, _, _, _, _⟩) ?_); (refine Se.toL rfl (Se.ld (o := ⟨some 36, _, _, _, _, _⟩) hs rfl rfl (Cell.blk 2 rfl P13.out) (by kernel_rfl) ?_))) | ((first | with_reducible refine Se.ab hs ?_ | with_reducible refine Se.abc hs ?_); clear hs; (first | ((fail_if_success (have _q := g2)); generalize w.heap.size = g2; intro w hs) | (generalize w.heap.size = g3; intro w hs))) | (go_at_call 51; refine Calls.mono (CO.out [_, _] _ hs) ?_; clear hs; rintro e w ⟨rfl, hs⟩) | (go_at_call 63; refine Calls.mono (CF.out [_, _, _] _ hs) ?_; clear hs; rintro e w ⟨rfl, hs⟩) | (go_at_call 64; refine Calls.mono (CV.out [_, _, _] _ hs) ?_; clear hs; rintro e w ⟨rfl, hs⟩) | (go_at_call 52; refine Calls.mono (CD.out [_, _, _] _ hs) ?_; clear hs; rintro e w ⟨rfl, hs⟩))
    refine Ch.region' 13 (fun wx => Blk wx g2 P 41 ∧ Blk wx g6 xs 99 ∧ Blk wx g3 F 23) (fun | 4 => true | _ => false) (by kernel_rfl) (by decide +kernel) (⟨hs.drew.hold (.blk g2 41 P) (by simp), hs.drew.hold (.blk g6 99 xs) (by simp), hs.drew.hold (.blk g3 23 F) (by simp)⟩) ?_
    replace hs := hs.drew
    generalize w.drew = w at hs ⊢
    change Ch.CW _ _ _ _ _ [0, 1, 2, 3, 4, 5, 6, 7, 8, 9, 10, 11, 12] _ _
    iterate 4 ((first | (refine Ch.pure (v := ?_) (by rfl) (by rfl) (by rfl) (fun wx hS => ?_) ?_; rotate_left; (focus (go_simp; (first | done | with_reducible rfl)))) | refine Ch.pure (v := _) (by rfl) (by rfl) (by rfl) (fun wx hS => Se.xl rfl rfl (by simpa only [hS.1.cell] using P0.out) (by decide +kernel)) ?_ | refine Ch.pure (v := _) (by rfl) (by rfl) (by rfl) (fun wx hS => Se.xla rfl rfl (Li.Rd.of_blk hS.2.1) (by rw [XL.out] <;> kernel_rfl) (by kernel_rfl)) ?_ | refine Ch.pure (v := _) (by rfl) (by rfl) (by rfl) (fun wx hS => Se.xla rfl rfl (Li.Rd.of_blk hS.2.2) (by rw [FL.out] <;> kernel_rfl) (by kernel_rfl)) ?_); (try simp only [Act.put, List.setIfInBounds_toArray, List.set_cons_zero, List.set_cons_succ]))
    refine Ch.noise (by rfl) (by rfl) (by rfl) ?_
    refine Se.gcall (f := 53) (args := #[.int .u8 k, .agg xs.toArray, .agg F.toArray]) ?_ ?_
    ·go_simp
    refine Calls.mono (CS1.out [_, _, _] _ hs) ?_
    clear hs
    rintro e w ⟨rfl, hs⟩
    refine ⟨_, rfl, ⟨hs.hold (.blk g2 41 P) (by simp), hs.hold (.blk g6 99 xs) (by simp), hs.hold (.blk g3 23 F) (by simp)⟩, ?_⟩
    (try simp only [Act.put, List.setIfInBounds_toArray, List.set_cons_zero, List.set_cons_succ])
    iterate 8 ((first | (refine Ch.pure (v := ?_) (by rfl) (by rfl) (by rfl) (fun wx hS => ?_) ?_; rotate_left; (focus (go_simp; (first | done | with_reducible rfl)))) | refine Ch.pure (v := _) (by rfl) (by rfl) (by rfl) (fun wx hS => Se.xl rfl rfl (by simpa only [hS.1.cell] using P13.out) (by decide +kernel)) ?_); (try simp only [Act.put, List.setIfInBounds_toArray, List.set_cons_zero, List.set_cons_succ]))
    refine Ch.done ?_
    try simp only [List.drop_succ_cons, List.drop_zero]
    go_wp2_with fail
    go_ret2
    refine ⟨?_, hs.drop.drop.drop⟩
    show Ending.returned (.tuple #[.int .i64 (IntKind.i64.wrap ((s : Int) + (dn : Int) + (d : Int))), .int .i64 0]) = _
    rw [EW.out]
    rfl
end Pd
end Go.Proofs.Ytdngfcmakjlamaa


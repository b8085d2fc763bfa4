/- Layer 35: the reference's Measure, the walk. No condition but Go's own limits. -/
import Derived.Test.YtdngfcmakjlamaaPduRMeas
import Derived.Test.YtdngfcmakjlamaaBaseB
set_option linter.unusedSimpArgs false
set_option linter.unusedVariables false
namespace Go.Proofs.Ytdngfcmakjlamaa
open Go Go.RowKit
namespace Pd
open Se (St At Reads Cell)
open Li (v8 v8_one Rd Blk Fr)
open Bv (n8 n16 n32 n64)
variable {w0 w : World} {X : List Nat} {L : List At}
attribute [local irreducible] Calls
attribute [local go_sem] Gd.mv_true Gd.pk_or Gd.pk_and Gd.pk_true Gd.pk_false
def fbadI (k fg h : Nat) (dd : Bool) : Bool := decide ((15 : Int) < (fg : Int)) || (IntKind.i64.wrap ((fg : Int) / 4)).tmod 2 == 1 && (k : Int) != 6 && (k : Int) != 7 || (IntKind.i64.wrap ((fg : Int) / 8)).tmod 2 == 1 && ((k : Int) != 7 || !(IntKind.i64.wrap ((fg : Int) / 4)).tmod 2 == 1) || !((fg : Int).tmod 2 == 1) == decide (0 < h) || (IntKind.i64.wrap ((fg : Int) / 2)).tmod 2 == 1 && (decide ((k : Int) < 4) || !dd)
def lbadI (k hl at0 q s mo : Nat) : Bool := (hl : Int) != (q : Int) || (at0 : Int) != 0 && (at0 : Int) != (s : Int) || (at0 : Int) != 0 && (mo : Int) == 0 || (at0 : Int) == 0 && ((k : Int) == 6 || (k : Int) == 7)
def tbadI (fg at0 tot q h d mo : Nat) : Bool := !((IntKind.i64.wrap ((fg : Int) / 2)).tmod 2 == 1) == decide (0 < d) || (at0 : Int) == 0 && (tot : Int) != (q : Int) + (h : Int) || decide (0 < at0) && (decide ((tot : Int) < (at0 : Int) + 1 + (d : Int)) || decide ((at0 : Int) + (mo : Int) + (d : Int) < (tot : Int)))
theorem bitI {x : Nat} (h : x < 256) : ((IntKind.i64.wrap ((x : Int) / 4)).tmod 2 == 1) = bit x 2 ∧ ((IntKind.i64.wrap ((x : Int) / 8)).tmod 2 == 1) = bit x 3 ∧ (((x : Int)).tmod 2 == 1) = bit x 0 ∧ ((IntKind.i64.wrap ((x : Int) / 2)).tmod 2 == 1) = bit x 1 := by
 unfold bit
 rw [IntWalk.i64_in _ (by omega), IntWalk.i64_in _ (by omega), IntWalk.i64_in _ (by omega)]
 rw [Int.tmod_eq_emod_of_nonneg (by omega), Int.tmod_eq_emod_of_nonneg (by omega), Int.tmod_eq_emod_of_nonneg (by omega), Int.tmod_eq_emod_of_nonneg (by omega)]
 refine ⟨?_, ?_, ?_, ?_⟩ <;> rw [Bool.eq_iff_iff] <;> simp only [beq_iff_eq, Nat.reducePow] <;> omega
theorem eqI (a b : Nat) : ((a : Int) == (b : Int)) = decide (a = b) := by rw [Bool.eq_iff_iff]; simp; omega
theorem ltI (a b : Nat) : decide ((a : Int) < (b : Int)) = decide (a < b) := by simp only [decide_eq_decide]; omega
theorem fbadI_eq {k fg : Nat} (h : fg < 256) (f : Fm) : fbadI k fg (hsum k f) f.dd = fbad k fg f := by
 unfold fbadI fbad
 obtain ⟨h2, h3, h0, h1⟩ := bitI h
 have e6 : ((k : Int) == 6) = decide (k = 6) := eqI k 6
 have e7 : ((k : Int) == 7) = decide (k = 7) := eqI k 7
 have l4 : decide ((k : Int) < 4) = decide (k < 4) := ltI k 4
 have l15 : decide ((15 : Int) < (fg : Int)) = decide (15 < fg) := ltI 15 fg
 simp only [bne, h2, h3, h0, h1, e6, e7, l4, l15]
theorem lbadI_eq (k hl at0 : Nat) (f : Fm) : lbadI k hl at0 (hdr k) (start k f) (most k) = lbad k hl at0 f := by
 unfold lbadI lbad
 have e6 : ((k : Int) == 6) = decide (k = 6) := eqI k 6
 have e7 : ((k : Int) == 7) = decide (k = 7) := eqI k 7
 have a0 : ((at0 : Int) == 0) = decide (at0 = 0) := eqI at0 0
 have m0 : ((most k : Int) == 0) = decide (most k = 0) := eqI _ 0
 simp only [bne, eqI, e6, e7, a0, m0]
theorem tbadI_eq (k : Nat) {fg : Nat} (h : fg < 256) (at0 tot : Nat) (f : Fm) : tbadI fg at0 tot (hdr k) (hsum k f) (dsum k f (decide (0 < at0))) (most k) = tbad k fg at0 tot f := by
 unfold tbadI tbad
 obtain ⟨h2, h3, h0, h1⟩ := bitI h
 generalize dsum k f (decide (0 < at0)) = d
 have a0 : ((at0 : Int) == 0) = decide (at0 = 0) := eqI at0 0
 have t0 : ((tot : Int) == (hdr k : Int) + (hsum k f : Int)) = decide (tot = hdr k + hsum k f) := by rw [Bool.eq_iff_iff]; simp; omega
 have t1 : decide ((tot : Int) < (at0 : Int) + 1 + (d : Int)) = decide (tot < at0 + 1 + d) := by simp only [decide_eq_decide]; omega
 have t2 : decide ((at0 : Int) + (most k : Int) + (d : Int) < (tot : Int)) = decide (at0 + most k + d < tot) := by simp only [decide_eq_decide]; omega
 simp only [bne, h1, a0, t0, t1, t2]
set_option maxRecDepth 100000 in
set_option maxHeartbeats 4000000 in
theorem rMeasure_st (hs : St w0 X L w) (bs : List (BitVec 8)) (f : Fm) {S : Option Addr} {n c : Nat} (hn : n = bs.length) (hS : Reads L S (bs.map v8)) (hc : n ≤ c) (hle : n ≤ 70368744177664) {t e : Nat} (hm : meas bs f = (t, e)) :
  Calls Try.prog 71 #[.slice S n c, fv f] w fun e' w' => e' = .returned (.tuple #[iv t, iv e]) ∧ St w0 X L w' := by
 obtain ⟨F, hF⟩ : ∃ F, F = fl f := ⟨_, rfl⟩
 obtain ⟨b1, hb1⟩ : ∃ b, framed f = b := ⟨_, rfl⟩
 have FL := Lib.hid (show F.length = 3 by rw [hF]; rfl)
 have CF : Hid (∀ (L' : List At) (w : World), St w0 X (L' ++ L) w → Calls Try.prog 14 #[.agg F.toArray] w fun e w' => e = .returned (.bool b1) ∧ St w0 X (L' ++ L) w') := Lib.hid (fun L' w hs => by rw [hF, ← fv_eq, ← hb1]; exact rFramed_st hs f)
 rw [fv_eq, ← hF]
 cases b1 with
 | false =>
  obtain ⟨rfl, rfl⟩ : t = 0 ∧ e = 2 := by unfold meas at hm; rw [if_pos hb1] at hm; cases hm; exact ⟨rfl, rfl⟩
  clear hm hb1 hF hS hn
  go_enter Try.func71, Try.ntmps71
  go_wp2_with (first | ((with_reducible refine Se.isL (o := ⟨some 16, _, _, _, _, _⟩) ?_); (refine Se.toL rfl (Se.ldw (o := ⟨some 16, _, _, _, _, _⟩) hs rfl rfl ((Reads.blk 0 rfl)) ((by rw [FL.out]; kernel_rfl)) (by kernel_rfl) ?_))) | ((first | with_reducible refine Se.ab hs ?_ | with_reducible refine Se.abc hs ?_); clear hs; (first | (generalize w.heap.size = g3; intro w hs))) | (go_at_call 14; refine Calls.mono (CF.out [_] _ hs) ?_; clear hs; rintro e w ⟨rfl, hs⟩))
  go_ret2
  exact ⟨rfl, hs.drop⟩
 | true =>
  by_cases h8 : 8 ≤ n
  case neg =>
   obtain ⟨rfl, rfl⟩ : t = 0 ∧ e = 4 := by unfold meas at hm; rw [if_neg (by rw [hb1]; decide), if_pos (by omega)] at hm; cases hm; exact ⟨rfl, rfl⟩
   have e8 : (n : Int) < 8 := by omega
   clear hm hb1 hF hS hn h8
   go_enter Try.func71, Try.ntmps71
   go_wp2_with (first | ((with_reducible refine Se.isL (o := ⟨some 16, _, _, _, _, _⟩) ?_); (refine Se.toL rfl (Se.ldw (o := ⟨some 16, _, _, _, _, _⟩) hs rfl rfl ((Reads.blk 0 rfl)) ((by rw [FL.out]; kernel_rfl)) (by kernel_rfl) ?_))) | ((first | with_reducible refine Se.ab hs ?_ | with_reducible refine Se.abc hs ?_); clear hs; (first | (generalize w.heap.size = g3; intro w hs))) | (go_at_call 14; refine Calls.mono (CF.out [_] _ hs) ?_; clear hs; rintro e w ⟨rfl, hs⟩))
   go_ret2
   exact ⟨rfl, hs.drop⟩
  case pos =>
   obtain ⟨k, hk⟩ : ∃ k, k = (bs.getD 0 0#8).toNat := ⟨_, rfl⟩
   obtain ⟨fg, hfg⟩ : ∃ k, k = (bs.getD 1 0#8).toNat := ⟨_, rfl⟩
   obtain ⟨hl, hhl⟩ : ∃ k, k = (bs.getD 2 0#8).toNat := ⟨_, rfl⟩
   obtain ⟨at0, hat⟩ : ∃ k, k = (bs.getD 3 0#8).toNat := ⟨_, rfl⟩
   obtain ⟨tot, htot⟩ : ∃ k, k = bigL (sub bs 4 8) := ⟨_, rfl⟩
   have hkl : k < 256 := by rw [hk]; exact (bs.getD 0 0#8).isLt
   have hfl : fg < 256 := by rw [hfg]; exact (bs.getD 1 0#8).isLt
   have hhll : hl < 256 := by rw [hhl]; exact (bs.getD 2 0#8).isLt
   have hatl : at0 < 256 := by rw [hat]; exact (bs.getD 3 0#8).isLt
   have hsl : (sub bs 4 8).length = 4 := by simp; omega
   have htl : tot < 4294967296 := by have := bigL_lt (sub bs 4 8); rw [hsl] at this; omega
   obtain ⟨g, off, rfl⟩ : ∃ g off, S = some ⟨g, off, none⟩ := by
    obtain ⟨g, off, h, _⟩ := Rd_cell (hS w hs.hold) 0 (v8_at bs 0 (by omega))
    exact ⟨g, off, h⟩
   have V0 := Lib.hid (show (bs.map v8)[0]? = some (.int .u8 (k : Int)) by rw [hk]; exact v8_at bs 0 (by omega))
   have V1 := Lib.hid (show (bs.map v8)[1]? = some (.int .u8 (fg : Int)) by rw [hfg]; exact v8_at bs 1 (by omega))
   have V2 := Lib.hid (show (bs.map v8)[2]? = some (.int .u8 (hl : Int)) by rw [hhl]; exact v8_at bs 2 (by omega))
   have V3 := Lib.hid (show (bs.map v8)[3]? = some (.int .u8 (at0 : Int)) by rw [hat]; exact v8_at bs 3 (by omega))
   have CVL : Hid (∀ (L' : List At) (w : World), St w0 X (L' ++ L) w → Calls Try.prog 94 #[.slice (some ⟨g, off + 4, none⟩) 4 (c - 4)] w fun e w' => e = .returned (.int .i64 (tot : Int)) ∧ St w0 X (L' ++ L) w') := Lib.hid (fun L' w hs => by
    rw [htot]
    refine (big_any w (sub bs 4 8) 4 (c - 4) hsl.symm (by omega) ?_).mono (fun e w' h => ⟨h.1, by rw [h.2]; exact hs⟩)
    have := Rd_at (((hS.app L') w hs.hold).take 8) 4
    simpa only [← List.map_take, ← List.map_drop] using this)
   have j4 : ¬ c = 4 := by omega
   have HB0 := rchain_eq bs f hb1 (by omega) hk hfg hhl hat htot
   rw [hm] at HB0
   obtain ⟨q10, hq10⟩ : ∃ b, fbad k fg f = b := ⟨_, rfl⟩
   obtain ⟨q12, hq12⟩ : ∃ b, lbad k hl at0 f = b := ⟨_, rfl⟩
   obtain ⟨q15, hq15⟩ : ∃ b, tbad k fg at0 tot f = b := ⟨_, rfl⟩
   rw [hq10, hq12, hq15] at HB0
   obtain ⟨h, hh⟩ : ∃ h, hsum k f = h := ⟨_, rfl⟩
   obtain ⟨q, hq⟩ : ∃ q, hdr k = q := ⟨_, rfl⟩
   obtain ⟨s, hst⟩ : ∃ s, start k f = s := ⟨_, rfl⟩
   obtain ⟨zp, hzp⟩ : ∃ b, decide (0 < at0) = b := ⟨_, rfl⟩
   obtain ⟨d, hd⟩ : ∃ d, dsum k f zp = d := ⟨_, rfl⟩
   obtain ⟨mo, hmo⟩ : ∃ x, most k = x := ⟨_, rfl⟩
   rw [hq] at HB0
   have HB := Lib.hid HB0
   have CH : Hid (∀ (L' : List At) (w : World), St w0 X (L' ++ L) w → Calls Try.prog 31 #[.int .i64 (k : Int)] w fun e w' => e = .returned (iv q) ∧ St w0 X (L' ++ L) w') := Lib.hid (fun L' w hs => rHeader_st hs k hkl hq)
   have CHS : Hid (∀ (L' : List At) (w : World), St w0 X (L' ++ L) w → Calls Try.prog 37 #[.int .i64 (k : Int), .agg F.toArray] w fun e w' => e = .returned (iv h) ∧ St w0 X (L' ++ L) w') := Lib.hid (fun L' w hs => by rw [hF, ← fv_eq]; exact rHeaderSum_st hs k f hh)
   have CDS : Hid (∀ (L' : List At) (w : World), St w0 X (L' ++ L) w → Calls Try.prog 38 #[.int .i64 (k : Int), .agg F.toArray, .bool zp] w fun e w' => e = .returned (iv d) ∧ St w0 X (L' ++ L) w') := Lib.hid (fun L' w hs => by rw [hF, ← fv_eq]; exact rDataSum_st hs k f zp hd)
   have CST : Hid (∀ (L' : List At) (w : World), St w0 X (L' ++ L) w → Calls Try.prog 39 #[.int .i64 (k : Int), .agg F.toArray] w fun e w' => e = .returned (iv s) ∧ St w0 X (L' ++ L) w') := Lib.hid (fun L' w hs => by rw [hF, ← fv_eq]; exact rStart_st hs k hkl hb1 hst)
   have HS := Lib.hid hS
   have i0 : (0 : Int) < (n : Int) := by omega
   have i1 : (1 : Int) < (n : Int) := by omega
   have i2 : (2 : Int) < (n : Int) := by omega
   have i3 : (3 : Int) < (n : Int) := by omega
   have i8 : (8 : Int) ≤ (c : Int) := by omega
   have j0 : 0 < n := by omega
   have j1 : 1 < n := by omega
   have j2 : 2 < n := by omega
   have j3 : 3 < n := by omega
   have j8 : 8 ≤ c := by omega
   have j4 : ¬ c = 4 := by omega
   have e8 : decide ((n : Int) < (8 : Int)) = false := by simp; omega
   have hql : q ≤ 128 := by rw [← hq]; exact hdr_le k
   have hhle : h ≤ 4 := by rw [← hh]; exact hsum_le k f
   have hdl : d ≤ 4 := by rw [← hd]; exact dsum_le k f zp
   have hmol : mo ≤ 1048576 := by rw [← hmo]; unfold most; split <;> omega
   have Q10 := Lib.hid (show fbadI k fg h f.dd = q10 by rw [← hh, fbadI_eq hfl, hq10])
   have Q12 := Lib.hid (show lbadI k hl at0 q s mo = q12 by rw [← hq, ← hst, ← hmo, lbadI_eq, hq12])
   have Q15 := Lib.hid (show tbadI fg at0 tot q h d mo = q15 by rw [← hq, ← hh, ← hd, ← hzp, ← hmo, tbadI_eq k hfl, hq15])
   have HX := Lib.hid (show F[1]? = some (.bool f.dd) by rw [hF]; rfl)
   obtain ⟨dd, hdd⟩ : ∃ b, f.dd = b := ⟨_, rfl⟩
   rw [hdd] at HX Q10
   have CMO : Hid (∀ (L' : List At) (w : World), St w0 X (L' ++ L) w → Calls Try.prog 32 #[.int .i64 (k : Int)] w fun e w' => e = .returned (iv mo) ∧ St w0 X (L' ++ L) w') := Lib.hid (fun L' w hs => (rMost_any w k hmo).mono (fun e w' h => ⟨h.1, by rw [h.2]; exact hs⟩))
   have s1 := wrapk_add hql hhle
   have s2 := wr1 hatl
   have s3 := wr2 hatl hdl
   have s4 := wr3 hatl hmol
   have s5 := wr4 hatl hmol hdl
   have wk' := wrapk_nat (Nat.lt_trans hkl (by decide : 256 < 4294967296))
   have wf' := wrapk_nat (Nat.lt_trans hfl (by decide : 256 < 4294967296))
   have wh' := wrapk_nat (Nat.lt_trans hhll (by decide : 256 < 4294967296))
   have wa' := wrapk_nat (Nat.lt_trans hatl (by decide : 256 < 4294967296))
   clear hm hb1 hF hn hk hfg hhl hat htot hsl hS HB0 hq10 hq12 hq15 hh hq hst hd hmo hdd
   go_enter Try.func71, Try.ntmps71
   go_upto_region 5 with (first | ((with_reducible refine Se.isL (o := ⟨some 16, _, _, _, _, _⟩) ?_); (refine Se.toL rfl (Se.ldw (o := ⟨some 16, _, _, _, _, _⟩) hs rfl rfl ((Reads.blk 0 rfl)) ((by rw [FL.out]; kernel_rfl)) (by kernel_rfl) ?_))) | ((first | with_reducible refine Se.ab hs ?_ | with_reducible refine Se.abc hs ?_); clear hs; (first | (generalize w.heap.size = g3; intro w hs))) | (go_at_call 14; refine Calls.mono (CF.out [_] _ hs) ?_; clear hs; rintro e w ⟨rfl, hs⟩))
   refine Ch.region' 19 (fun wx => Rd wx (some ⟨g, off, none⟩) (bs.map v8)) (fun | 14 => true | _ => false) (by kernel_rfl) (by decide +kernel) (HS.out _ (fun a ha => hs.drew.hold a (by simp [ha]))) ?_
   replace hs := hs.drew
   generalize w.drew = w at hs ⊢
   change Ch.CW _ _ _ _ _ [0, 1, 2, 3, 4, 5, 6, 7, 8, 9, 10, 11, 12, 13, 14, 15, 16, 17, 18] _ _
   iterate 14 ((first | (refine Ch.pure (v := ?_) (by rfl) (by rfl) (by rfl) (fun wx hS => ?_) ?_; rotate_left; (focus (go_simp; (first | done | with_reducible rfl)))) | refine Ch.pure (v := _) (by rfl) (by rfl) (by rfl) (fun wx hS => Se.xl rfl rfl (Rd_c hS 0 V0.out) (by decide +kernel)) ?_ | refine Ch.pure (v := _) (by rfl) (by rfl) (by rfl) (fun wx hS => Se.xl rfl rfl (Rd_c hS 1 V1.out) (by decide +kernel)) ?_ | refine Ch.pure (v := _) (by rfl) (by rfl) (by rfl) (fun wx hS => Se.xl rfl rfl (Rd_c hS 3 V3.out) (by decide +kernel)) ?_); (try simp only [Act.put, List.setIfInBounds_toArray, List.set_cons_zero, List.set_cons_succ]))
   refine Ch.noise (by rfl) (by rfl) (by rfl) ?_
   refine Se.gcall (f := 94) (args := #[.slice (some ⟨g, off + 4, none⟩) 4 (c - 4)]) ?_ ?_
   ·go_simp
   refine Calls.mono (CVL.out [_] _ hs) ?_
   clear hs
   rintro e w ⟨rfl, hs⟩
   refine ⟨_, rfl, HS.out _ (fun a ha => hs.hold a (by simp [ha])), ?_⟩
   (try simp only [Act.put, List.setIfInBounds_toArray, List.set_cons_zero, List.set_cons_succ])
   iterate 4 ((first | (refine Ch.pure (v := ?_) (by rfl) (by rfl) (by rfl) (fun wx hS => ?_) ?_; rotate_left; (focus (go_simp; (first | done | with_reducible rfl))))); (try simp only [Act.put, List.setIfInBounds_toArray, List.set_cons_zero, List.set_cons_succ]))
   refine Ch.done ?_
   try simp only [List.drop_succ_cons, List.drop_zero]
   by_cases hq0 : q = 0
   ·obtain ⟨rfl, rfl⟩ : t = 0 ∧ e = 360 := by have := HB.out; rw [if_pos hq0] at this; cases this; exact ⟨rfl, rfl⟩
    have vq : ((q : Int) == 0) = true := by simp; omega
    go_wp2_with (first | (go_at_call 31; refine Calls.mono (CH.out [_] _ hs) ?_; clear hs; rintro e w ⟨rfl, hs⟩))
    go_ret2
    exact ⟨rfl, hs.drop⟩
   have HB1 := HB.out
   rw [if_neg hq0] at HB1
   replace HB := Lib.hid HB1
   clear HB1
   have vq : ((q : Int) == 0) = false := by simp; omega
   go_upto_region 9 with (first | ((with_reducible refine Se.isL (o := ⟨some 41, _, _, _, _, _⟩) ?_); (refine Se.toL rfl (Se.ldw (o := ⟨some 41, _, _, _, _, _⟩) hs rfl rfl ((Reads.blk 0 rfl)) ((by rw [FL.out]; kernel_rfl)) (by kernel_rfl) ?_))) | (go_at_call 31; refine Calls.mono (CH.out [_] _ hs) ?_; clear hs; rintro e w ⟨rfl, hs⟩) | (go_at_call 37; refine Calls.mono (CHS.out [_] _ hs) ?_; clear hs; rintro e w ⟨rfl, hs⟩))
   clear vq
   refine Gd.plain 19 (fun wx => Rd wx (some ⟨g, off, none⟩) (bs.map v8) ∧ Blk wx g3 F 23) (fun  | _ => false) rfl (⟨HS.out _ (fun a ha => hs.hold a (by simp [ha])), hs.hold (.blk g3 23 F) (by simp)⟩) ?_
   change Ch.CW _ _ _ _ _ [0, 1, 2, 3, 4, 5, 6, 7, 8, 9, 10, 11, 12, 13, 14, 15, 16, 17, 18] _ _
   iterate 19 (refine Gd.look (by rfl) ?_; (first | ((with_reducible refine Gd.isPick0 ?_); refine Gd.qpick (b := _) (v := ?_) (e := ?_) (by rfl) (by rfl) (by rfl) (by rfl) ?_ ?_ ?_; rotate_left 2; (focus (go_simp; (first | done | with_reducible rfl))); (focus (with_reducible rfl)); (intro _ _)) | ((with_reducible refine Gd.isPick1 ?_); refine Gd.gpick (b := ?_) (v := ?_) (e := ?_) (by rfl) (by rfl) (by first | exact Gd.want_t rfl rfl rfl | exact Gd.want_f rfl rfl rfl | exact Gd.want_mt rfl rfl rfl | exact Gd.want_mf rfl rfl rfl) ?_ ?_ ?_; rotate_left 3; (focus ((intro hb; have hb0 := hb; (try simp only [Bool.and_eq_true] at hb)); refine ⟨?_, ?_⟩ <;> (go_simp; (first | done | with_reducible rfl)))); (focus (with_reducible rfl)); (intro _ _)) | ((with_reducible refine Gd.isBin0 (ty := 4) ?_); refine Gd.qb (v := ?_) (e := ?_) (by rfl) (by rfl) (fun wx hS => ?_) ?_ ?_; rotate_left 2; (focus (go_simp; (first | done | with_reducible rfl))); (focus (with_reducible rfl)); (intro _ _)) | ((with_reducible refine Gd.isUn0 (ty := 4) ?_); refine Gd.qb (v := ?_) (e := ?_) (by rfl) (by rfl) (fun wx hS => ?_) ?_ ?_; rotate_left 2; (focus (go_simp; (first | done | with_reducible rfl))); (focus (with_reducible rfl)); (intro _ _)) | ((with_reducible refine Gd.isBin1 (ty := 4) ?_); refine Gd.gb (v := ?_) (e := ?_) (by rfl) (by first | exact Gd.want_t rfl rfl rfl | exact Gd.want_f rfl rfl rfl | exact Gd.want_mt rfl rfl rfl | exact Gd.want_mf rfl rfl rfl) ?_ ?_ ?_; rotate_left 2; (focus ((intro hb; have hb0 := hb; (try simp only [Bool.and_eq_true] at hb)); intro wx hS; go_simp; (first | done | with_reducible rfl))); (focus (with_reducible rfl)); (intro _ _)) | ((with_reducible refine Gd.isUn1 (ty := 4) ?_); refine Gd.gb (v := ?_) (e := ?_) (by rfl) (by first | exact Gd.want_t rfl rfl rfl | exact Gd.want_f rfl rfl rfl | exact Gd.want_mt rfl rfl rfl | exact Gd.want_mf rfl rfl rfl) ?_ ?_ ?_; rotate_left 2; (focus ((intro hb; have hb0 := hb; (try simp only [Bool.and_eq_true] at hb)); intro wx hS; go_simp; (first | done | with_reducible rfl))); (focus (with_reducible rfl)); (intro _ _)) | ((with_reducible refine Gd.is0 ?_); refine Gd.qp (v := ?_) (by rfl) (by rfl) (fun wx hS => ?_) ?_; rotate_left; (focus (go_simp; (first | done | with_reducible rfl)))) | ((with_reducible refine Gd.is1 ?_); refine Gd.gp (v := ?_) (by rfl) (by first | exact Gd.want_t rfl rfl rfl | exact Gd.want_f rfl rfl rfl | exact Gd.want_mt rfl rfl rfl | exact Gd.want_mf rfl rfl rfl) ?_ ?_; rotate_left; (focus ((intro hb; have hb0 := hb; (try simp only [Bool.and_eq_true] at hb)); intro wx hS; go_simp; (first | done | with_reducible rfl))))); (try simp only [Act.put, List.setIfInBounds_toArray, List.set_cons_zero, List.set_cons_succ]))
   refine Ch.done ?_
   go_upto_region 10 with (fail)
   refine Gd.plain 42 (fun wx => Rd wx (some ⟨g, off, none⟩) (bs.map v8) ∧ Blk wx g3 F 23) (fun  | _ => false) rfl (⟨HS.out _ (fun a ha => hs.hold a (by simp [ha])), hs.hold (.blk g3 23 F) (by simp)⟩) ?_
   change Ch.CW _ _ _ _ _ [0, 1, 2, 3, 4, 5, 6, 7, 8, 9, 10, 11, 12, 13, 14, 15, 16, 17, 18, 19, 20, 21, 22, 23, 24, 25, 26, 27, 28, 29, 30, 31, 32, 33, 34, 35, 36, 37, 38, 39, 40, 41] _ _
   iterate 42 (refine Gd.look (by rfl) ?_; (first | ((with_reducible refine Gd.isLoad0 ?_); first | (refine Gd.qp (v := _) (by rfl) (by rfl) (fun wx hS => Se.xl (by rfl) (by rfl) (by rw [(hS.2).cell]; first | exact HX.out) (by decide +kernel)) ?_)) | ((with_reducible refine Gd.isLoad1 ?_); first | (refine Gd.gp (v := ?_) (by rfl) (by first | exact Gd.want_t rfl rfl rfl | exact Gd.want_f rfl rfl rfl | exact Gd.want_mt rfl rfl rfl | exact Gd.want_mf rfl rfl rfl) ?_ ?_; rotate_left; (focus ((intro hb; have hb0 := hb; (try simp only [Bool.and_eq_true] at hb)); intro wx hS; exact Se.xl (by rfl) (by exact Gd.mv_of hb0) (by rw [(hS.2).cell]; first | exact HX.out) (by decide +kernel)))) | (refine Gd.gp (v := ?_) (by rfl) (by first | exact Gd.want_t rfl rfl rfl | exact Gd.want_f rfl rfl rfl | exact Gd.want_mt rfl rfl rfl | exact Gd.want_mf rfl rfl rfl) ?_ ?_; rotate_left; (focus ((intro hb; have hb0 := hb; (try simp only [Bool.and_eq_true] at hb)); intro wx hS; exact Se.xl (by rfl) (by rfl) (by rw [(hS.2).cell]; first | exact HX.out) (by decide +kernel))))) | ((with_reducible refine Gd.isPick0 ?_); refine Gd.qpick (b := _) (v := ?_) (e := ?_) (by rfl) (by rfl) (by rfl) (by rfl) ?_ ?_ ?_; rotate_left 2; (focus (go_simp; (first | done | with_reducible rfl))); (focus (with_reducible rfl)); (intro _ _)) | ((with_reducible refine Gd.isPick1 ?_); refine Gd.gpick (b := ?_) (v := ?_) (e := ?_) (by rfl) (by rfl) (by first | exact Gd.want_t rfl rfl rfl | exact Gd.want_f rfl rfl rfl | exact Gd.want_mt rfl rfl rfl | exact Gd.want_mf rfl rfl rfl) ?_ ?_ ?_; rotate_left 3; (focus ((intro hb; have hb0 := hb; (try simp only [Bool.and_eq_true] at hb)); refine ⟨?_, ?_⟩ <;> (go_simp; (first | done | with_reducible rfl)))); (focus (with_reducible rfl)); (intro _ _)) | ((with_reducible refine Gd.isBin0 (ty := 4) ?_); refine Gd.qb (v := ?_) (e := ?_) (by rfl) (by rfl) (fun wx hS => ?_) ?_ ?_; rotate_left 2; (focus (go_simp; (first | done | with_reducible rfl))); (focus (with_reducible rfl)); (intro _ _)) | ((with_reducible refine Gd.isUn0 (ty := 4) ?_); refine Gd.qb (v := ?_) (e := ?_) (by rfl) (by rfl) (fun wx hS => ?_) ?_ ?_; rotate_left 2; (focus (go_simp; (first | done | with_reducible rfl))); (focus (with_reducible rfl)); (intro _ _)) | ((with_reducible refine Gd.isBin1 (ty := 4) ?_); refine Gd.gb (v := ?_) (e := ?_) (by rfl) (by first | exact Gd.want_t rfl rfl rfl | exact Gd.want_f rfl rfl rfl | exact Gd.want_mt rfl rfl rfl | exact Gd.want_mf rfl rfl rfl) ?_ ?_ ?_; rotate_left 2; (focus ((intro hb; have hb0 := hb; (try simp only [Bool.and_eq_true] at hb)); intro wx hS; go_simp; (first | done | with_reducible rfl))); (focus (with_reducible rfl)); (intro _ _)) | ((with_reducible refine Gd.isUn1 (ty := 4) ?_); refine Gd.gb (v := ?_) (e := ?_) (by rfl) (by first | exact Gd.want_t rfl rfl rfl | exact Gd.want_f rfl rfl rfl | exact Gd.want_mt rfl rfl rfl | exact Gd.want_mf rfl rfl rfl) ?_ ?_ ?_; rotate_left 2; (focus ((intro hb; have hb0 := hb; (try simp only [Bool.and_eq_true] at hb)); intro wx hS; go_simp; (first | done | with_reducible rfl))); (focus (with_reducible rfl)); (intro _ _)) | ((with_reducible refine Gd.is0 ?_); refine Gd.qp (v := ?_) (by rfl) (by rfl) (fun wx hS => ?_) ?_; rotate_left; (focus (go_simp; (first | done | with_reducible rfl)))) | ((with_reducible refine Gd.is1 ?_); refine Gd.gp (v := ?_) (by rfl) (by first | exact Gd.want_t rfl rfl rfl | exact Gd.want_f rfl rfl rfl | exact Gd.want_mt rfl rfl rfl | exact Gd.want_mf rfl rfl rfl) ?_ ?_; rotate_left; (focus ((intro hb; have hb0 := hb; (try simp only [Bool.and_eq_true] at hb)); intro wx hS; go_simp; (first | done | with_reducible rfl))))); (try simp only [Act.put, List.setIfInBounds_toArray, List.set_cons_zero, List.set_cons_succ]))
   refine Ch.done ?_
   go_upto_region 12 with (fail)
   ·have hb : fbadI k fg h dd = true := by
     unfold Hid at *
     subst_vars
     first | assumption | (symm; assumption)
    obtain rfl : q10 = true := by rw [← Q10.out]; exact hb
    obtain ⟨rfl, rfl⟩ : t = 0 ∧ e = 361 := by have := HB.out; simpa using this
    go_ret2
    exact ⟨rfl, hs.drop⟩
   obtain rfl : q10 = false := by
    rw [← Q10.out]
    unfold Hid at *
    subst_vars
    first | assumption | (symm; assumption)
   refine Ch.region' 39 (fun wx => Rd wx (some ⟨g, off, none⟩) (bs.map v8) ∧ Blk wx g3 F 23) (fun | 5 => true | 14 => true | 23 => true | _ => false) (by kernel_rfl) (by decide +kernel) (⟨HS.out _ (fun a ha => hs.drew.hold a (by simp [ha])), hs.drew.hold (.blk g3 23 F) (by simp)⟩) ?_
   replace hs := hs.drew
   generalize w.drew = w at hs ⊢
   change Ch.CW _ _ _ _ _ [0, 1, 2, 3, 4, 5, 6, 7, 8, 9, 10, 11, 12, 13, 14, 15, 16, 17, 18, 19, 20, 21, 22, 23, 24, 25, 26, 27, 28, 29, 30, 31, 32, 33, 34, 35, 36, 37, 38] _ _
   iterate 5 (refine Gd.look (by rfl) ?_; (first | ((with_reducible refine Gd.isLoad0 ?_); first | (refine Gd.qp (v := _) (by rfl) (by rfl) (fun wx hS => Se.xl rfl rfl (Rd_c hS.1 2 V2.out) (by decide +kernel)) ?_)) | ((with_reducible refine Gd.isLoad1 ?_); first | (refine Gd.gp (v := ?_) (by rfl) (by first | exact Gd.want_t rfl rfl rfl | exact Gd.want_f rfl rfl rfl | exact Gd.want_mt rfl rfl rfl | exact Gd.want_mf rfl rfl rfl) ?_ ?_; rotate_left; (focus ((intro hb; have hb0 := hb; (try simp only [Bool.and_eq_true] at hb)); intro wx hS; exact Se.xl rfl rfl (Rd_c hS.1 2 V2.out) (by decide +kernel))))) | ((with_reducible refine Gd.isPick0 ?_); refine Gd.qpick (b := _) (v := ?_) (e := ?_) (by rfl) (by rfl) (by rfl) (by rfl) ?_ ?_ ?_; rotate_left 2; (focus (go_simp; (first | done | with_reducible rfl))); (focus (with_reducible rfl)); (intro _ _)) | ((with_reducible refine Gd.isPick1 ?_); refine Gd.gpick (b := ?_) (v := ?_) (e := ?_) (by rfl) (by rfl) (by first | exact Gd.want_t rfl rfl rfl | exact Gd.want_f rfl rfl rfl | exact Gd.want_mt rfl rfl rfl | exact Gd.want_mf rfl rfl rfl) ?_ ?_ ?_; rotate_left 3; (focus ((intro hb; have hb0 := hb; (try simp only [Bool.and_eq_true] at hb)); refine ⟨?_, ?_⟩ <;> (go_simp; (first | done | with_reducible rfl)))); (focus (with_reducible rfl)); (intro _ _)) | ((with_reducible refine Gd.isBin0 (ty := 4) ?_); refine Gd.qb (v := ?_) (e := ?_) (by rfl) (by rfl) (fun wx hS => ?_) ?_ ?_; rotate_left 2; (focus (go_simp; (first | done | with_reducible rfl))); (focus (with_reducible rfl)); (intro _ _)) | ((with_reducible refine Gd.isUn0 (ty := 4) ?_); refine Gd.qb (v := ?_) (e := ?_) (by rfl) (by rfl) (fun wx hS => ?_) ?_ ?_; rotate_left 2; (focus (go_simp; (first | done | with_reducible rfl))); (focus (with_reducible rfl)); (intro _ _)) | ((with_reducible refine Gd.isBin1 (ty := 4) ?_); refine Gd.gb (v := ?_) (e := ?_) (by rfl) (by first | exact Gd.want_t rfl rfl rfl | exact Gd.want_f rfl rfl rfl | exact Gd.want_mt rfl rfl rfl | exact Gd.want_mf rfl rfl rfl) ?_ ?_ ?_; rotate_left 2; (focus ((intro hb; have hb0 := hb; (try simp only [Bool.and_eq_true] at hb)); intro wx hS; go_simp; (first | done | with_reducible rfl))); (focus (with_reducible rfl)); (intro _ _)) | ((with_reducible refine Gd.isUn1 (ty := 4) ?_); refine Gd.gb (v := ?_) (e := ?_) (by rfl) (by first | exact Gd.want_t rfl rfl rfl | exact Gd.want_f rfl rfl rfl | exact Gd.want_mt rfl rfl rfl | exact Gd.want_mf rfl rfl rfl) ?_ ?_ ?_; rotate_left 2; (focus ((intro hb; have hb0 := hb; (try simp only [Bool.and_eq_true] at hb)); intro wx hS; go_simp; (first | done | with_reducible rfl))); (focus (with_reducible rfl)); (intro _ _)) | ((with_reducible refine Gd.is0 ?_); refine Gd.qp (v := ?_) (by rfl) (by rfl) (fun wx hS => ?_) ?_; rotate_left; (focus (go_simp; (first | done | with_reducible rfl)))) | ((with_reducible refine Gd.is1 ?_); refine Gd.gp (v := ?_) (by rfl) (by first | exact Gd.want_t rfl rfl rfl | exact Gd.want_f rfl rfl rfl | exact Gd.want_mt rfl rfl rfl | exact Gd.want_mf rfl rfl rfl) ?_ ?_; rotate_left; (focus ((intro hb; have hb0 := hb; (try simp only [Bool.and_eq_true] at hb)); intro wx hS; go_simp; (first | done | with_reducible rfl))))); (try simp only [Act.put, List.setIfInBounds_toArray, List.set_cons_zero, List.set_cons_succ]))
   refine Ch.noise (by rfl) (by rfl) (by rfl) ?_
   refine Se.gcall (f := 31) (args := #[.int .i64 (k : Int)]) ?_ ?_
   ·go_simp
   refine Calls.mono (CH.out [_] _ hs) ?_
   clear hs
   rintro e w ⟨rfl, hs⟩
   refine ⟨_, rfl, ⟨HS.out _ (fun a ha => hs.hold a (by simp [ha])), hs.hold (.blk g3 23 F) (by simp)⟩, ?_⟩
   (try simp only [Act.put, List.setIfInBounds_toArray, List.set_cons_zero, List.set_cons_succ])
   iterate 8 (refine Gd.look (by rfl) ?_; (first | ((with_reducible refine Gd.isLoad0 ?_); first | (refine Gd.qp (v := .agg F.toArray) (by rfl) (by rfl) (fun wx hS => Se.xla (by rfl) (by rfl) (Li.Rd.of_blk hS.2) (by rw [FL.out] <;> kernel_rfl) (by kernel_rfl)) ?_)) | ((with_reducible refine Gd.isLoad1 ?_); first | (refine Gd.gp (v := .agg F.toArray) (by rfl) (by first | exact Gd.want_t rfl rfl rfl | exact Gd.want_f rfl rfl rfl | exact Gd.want_mt rfl rfl rfl | exact Gd.want_mf rfl rfl rfl) (fun hb0 wx hS => Se.xla (by rfl) (by rfl) (Li.Rd.of_blk hS.2) (by rw [FL.out] <;> kernel_rfl) (by kernel_rfl)) ?_)) | ((with_reducible refine Gd.isPick0 ?_); refine Gd.qpick (b := _) (v := ?_) (e := ?_) (by rfl) (by rfl) (by rfl) (by rfl) ?_ ?_ ?_; rotate_left 2; (focus (go_simp; (first | done | with_reducible rfl))); (focus (with_reducible rfl)); (intro _ _)) | ((with_reducible refine Gd.isPick1 ?_); refine Gd.gpick (b := ?_) (v := ?_) (e := ?_) (by rfl) (by rfl) (by first | exact Gd.want_t rfl rfl rfl | exact Gd.want_f rfl rfl rfl | exact Gd.want_mt rfl rfl rfl | exact Gd.want_mf rfl rfl rfl) ?_ ?_ ?_; rotate_left 3; (focus ((intro hb; have hb0 := hb; (try simp only [Bool.and_eq_true] at hb)); refine ⟨?_, ?_⟩ <;> (go_simp; (first | done | with_reducible rfl)))); (focus (with_reducible rfl)); (intro _ _)) | ((with_reducible refine Gd.isBin0 (ty := 4) ?_); refine Gd.qb (v := ?_) (e := ?_) (by rfl) (by rfl) (fun wx hS => ?_) ?_ ?_; rotate_left 2; (focus (go_simp; (first | done | with_reducible rfl))); (focus (with_reducible rfl)); (intro _ _)) | ((with_reducible refine Gd.isUn0 (ty := 4) ?_); refine Gd.qb (v := ?_) (e := ?_) (by rfl) (by rfl) (fun wx hS => ?_) ?_ ?_; rotate_left 2; (focus (go_simp; (first | done | with_reducible rfl))); (focus (with_reducible rfl)); (intro _ _)) | ((with_reducible refine Gd.isBin1 (ty := 4) ?_); refine Gd.gb (v := ?_) (e := ?_) (by rfl) (by first | exact Gd.want_t rfl rfl rfl | exact Gd.want_f rfl rfl rfl | exact Gd.want_mt rfl rfl rfl | exact Gd.want_mf rfl rfl rfl) ?_ ?_ ?_; rotate_left 2; (focus ((intro hb; have hb0 := hb; (try simp only [Bool.and_eq_true] at hb)); intro wx hS; go_simp; (first | done | with_reducible rfl))); (focus (with_reducible rfl)); (intro _ _)) | ((with_reducible refine Gd.isUn1 (ty := 4) ?_); refine Gd.gb (v := ?_) (e := ?_) (by rfl) (by first | exact Gd.want_t rfl rfl rfl | exact Gd.want_f rfl rfl rfl | exact Gd.want_mt rfl rfl rfl | exact Gd.want_mf rfl rfl rfl) ?_ ?_ ?_; rotate_left 2; (focus ((intro hb; have hb0 := hb; (try simp only [Bool.and_eq_true] at hb)); intro wx hS; go_simp; (first | done | with_reducible rfl))); (focus (with_reducible rfl)); (intro _ _)) | ((with_reducible refine Gd.is0 ?_); refine Gd.qp (v := ?_) (by rfl) (by rfl) (fun wx hS => ?_) ?_; rotate_left; (focus (go_simp; (first | done | with_reducible rfl)))) | ((with_reducible refine Gd.is1 ?_); refine Gd.gp (v := ?_) (by rfl) (by first | exact Gd.want_t rfl rfl rfl | exact Gd.want_f rfl rfl rfl | exact Gd.want_mt rfl rfl rfl | exact Gd.want_mf rfl rfl rfl) ?_ ?_; rotate_left; (focus ((intro hb; have hb0 := hb; (try simp only [Bool.and_eq_true] at hb)); intro wx hS; go_simp; (first | done | with_reducible rfl))))); (try simp only [Act.put, List.setIfInBounds_toArray, List.set_cons_zero, List.set_cons_succ]))
   refine Gd.gn (v := iv s) (by rfl) (by rfl) (by first | exact Gd.want_t rfl rfl rfl | exact Gd.want_f rfl rfl rfl | exact Gd.want_mt rfl rfl rfl | exact Gd.want_mf rfl rfl rfl) hs (fun hb => ?_) (fun w hT => ?_)
   ·(try simp only [Bool.and_eq_true] at hb)
    refine Se.gcall (f := 39) (args := #[.int .i64 (k : Int), .agg F.toArray]) ?_ ?_
    ·go_simp
    refine Calls.mono (CST.out [_] _ hs) ?_
    clear hs
    rintro e w ⟨rfl, hs⟩
    exact ⟨_, rfl, rfl, hs⟩
   clear hs
   have hs := hT
   clear hT
   refine ⟨⟨HS.out _ (fun a ha => hs.hold a (by simp [ha])), hs.hold (.blk g3 23 F) (by simp)⟩, ?_⟩
   (try simp only [Act.put, List.setIfInBounds_toArray, List.set_cons_zero, List.set_cons_succ])
   iterate 8 (refine Gd.look (by rfl) ?_; (first | ((with_reducible refine Gd.isPick0 ?_); refine Gd.qpick (b := _) (v := ?_) (e := ?_) (by rfl) (by rfl) (by rfl) (by rfl) ?_ ?_ ?_; rotate_left 2; (focus (go_simp; (first | done | with_reducible rfl))); (focus (with_reducible rfl)); (intro _ _)) | ((with_reducible refine Gd.isPick1 ?_); refine Gd.gpick (b := ?_) (v := ?_) (e := ?_) (by rfl) (by rfl) (by first | exact Gd.want_t rfl rfl rfl | exact Gd.want_f rfl rfl rfl | exact Gd.want_mt rfl rfl rfl | exact Gd.want_mf rfl rfl rfl) ?_ ?_ ?_; rotate_left 3; (focus ((intro hb; have hb0 := hb; (try simp only [Bool.and_eq_true] at hb)); refine ⟨?_, ?_⟩ <;> (go_simp; (first | done | with_reducible rfl)))); (focus (with_reducible rfl)); (intro _ _)) | ((with_reducible refine Gd.isBin0 (ty := 4) ?_); refine Gd.qb (v := ?_) (e := ?_) (by rfl) (by rfl) (fun wx hS => ?_) ?_ ?_; rotate_left 2; (focus (go_simp; (first | done | with_reducible rfl))); (focus (with_reducible rfl)); (intro _ _)) | ((with_reducible refine Gd.isUn0 (ty := 4) ?_); refine Gd.qb (v := ?_) (e := ?_) (by rfl) (by rfl) (fun wx hS => ?_) ?_ ?_; rotate_left 2; (focus (go_simp; (first | done | with_reducible rfl))); (focus (with_reducible rfl)); (intro _ _)) | ((with_reducible refine Gd.isBin1 (ty := 4) ?_); refine Gd.gb (v := ?_) (e := ?_) (by rfl) (by first | exact Gd.want_t rfl rfl rfl | exact Gd.want_f rfl rfl rfl | exact Gd.want_mt rfl rfl rfl | exact Gd.want_mf rfl rfl rfl) ?_ ?_ ?_; rotate_left 2; (focus ((intro hb; have hb0 := hb; (try simp only [Bool.and_eq_true] at hb)); intro wx hS; go_simp; (first | done | with_reducible rfl))); (focus (with_reducible rfl)); (intro _ _)) | ((with_reducible refine Gd.isUn1 (ty := 4) ?_); refine Gd.gb (v := ?_) (e := ?_) (by rfl) (by first | exact Gd.want_t rfl rfl rfl | exact Gd.want_f rfl rfl rfl | exact Gd.want_mt rfl rfl rfl | exact Gd.want_mf rfl rfl rfl) ?_ ?_ ?_; rotate_left 2; (focus ((intro hb; have hb0 := hb; (try simp only [Bool.and_eq_true] at hb)); intro wx hS; go_simp; (first | done | with_reducible rfl))); (focus (with_reducible rfl)); (intro _ _)) | ((with_reducible refine Gd.is0 ?_); refine Gd.qp (v := ?_) (by rfl) (by rfl) (fun wx hS => ?_) ?_; rotate_left; (focus (go_simp; (first | done | with_reducible rfl)))) | ((with_reducible refine Gd.is1 ?_); refine Gd.gp (v := ?_) (by rfl) (by first | exact Gd.want_t rfl rfl rfl | exact Gd.want_f rfl rfl rfl | exact Gd.want_mt rfl rfl rfl | exact Gd.want_mf rfl rfl rfl) ?_ ?_; rotate_left; (focus ((intro hb; have hb0 := hb; (try simp only [Bool.and_eq_true] at hb)); intro wx hS; go_simp; (first | done | with_reducible rfl))))); (try simp only [Act.put, List.setIfInBounds_toArray, List.set_cons_zero, List.set_cons_succ]))
   refine Gd.gn (v := iv mo) (by rfl) (by rfl) (by first | exact Gd.want_t rfl rfl rfl | exact Gd.want_f rfl rfl rfl | exact Gd.want_mt rfl rfl rfl | exact Gd.want_mf rfl rfl rfl) hs (fun hb => ?_) (fun w hT => ?_)
   ·(try simp only [Bool.and_eq_true] at hb)
    refine Se.gcall (f := 32) (args := #[.int .i64 (k : Int)]) ?_ ?_
    ·go_simp
    refine Calls.mono (CMO.out [_] _ hs) ?_
    clear hs
    rintro e w ⟨rfl, hs⟩
    exact ⟨_, rfl, rfl, hs⟩
   clear hs
   have hs := hT
   clear hT
   refine ⟨⟨HS.out _ (fun a ha => hs.hold a (by simp [ha])), hs.hold (.blk g3 23 F) (by simp)⟩, ?_⟩
   (try simp only [Act.put, List.setIfInBounds_toArray, List.set_cons_zero, List.set_cons_succ])
   iterate 15 (refine Gd.look (by rfl) ?_; (first | ((with_reducible refine Gd.isPick0 ?_); refine Gd.qpick (b := _) (v := ?_) (e := ?_) (by rfl) (by rfl) (by rfl) (by rfl) ?_ ?_ ?_; rotate_left 2; (focus (go_simp; (first | done | with_reducible rfl))); (focus (with_reducible rfl)); (intro _ _)) | ((with_reducible refine Gd.isPick1 ?_); refine Gd.gpick (b := ?_) (v := ?_) (e := ?_) (by rfl) (by rfl) (by first | exact Gd.want_t rfl rfl rfl | exact Gd.want_f rfl rfl rfl | exact Gd.want_mt rfl rfl rfl | exact Gd.want_mf rfl rfl rfl) ?_ ?_ ?_; rotate_left 3; (focus ((intro hb; have hb0 := hb; (try simp only [Bool.and_eq_true] at hb)); refine ⟨?_, ?_⟩ <;> (go_simp; (first | done | with_reducible rfl)))); (focus (with_reducible rfl)); (intro _ _)) | ((with_reducible refine Gd.isBin0 (ty := 4) ?_); refine Gd.qb (v := ?_) (e := ?_) (by rfl) (by rfl) (fun wx hS => ?_) ?_ ?_; rotate_left 2; (focus (go_simp; (first | done | with_reducible rfl))); (focus (with_reducible rfl)); (intro _ _)) | ((with_reducible refine Gd.isUn0 (ty := 4) ?_); refine Gd.qb (v := ?_) (e := ?_) (by rfl) (by rfl) (fun wx hS => ?_) ?_ ?_; rotate_left 2; (focus (go_simp; (first | done | with_reducible rfl))); (focus (with_reducible rfl)); (intro _ _)) | ((with_reducible refine Gd.isBin1 (ty := 4) ?_); refine Gd.gb (v := ?_) (e := ?_) (by rfl) (by first | exact Gd.want_t rfl rfl rfl | exact Gd.want_f rfl rfl rfl | exact Gd.want_mt rfl rfl rfl | exact Gd.want_mf rfl rfl rfl) ?_ ?_ ?_; rotate_left 2; (focus ((intro hb; have hb0 := hb; (try simp only [Bool.and_eq_true] at hb)); intro wx hS; go_simp; (first | done | with_reducible rfl))); (focus (with_reducible rfl)); (intro _ _)) | ((with_reducible refine Gd.isUn1 (ty := 4) ?_); refine Gd.gb (v := ?_) (e := ?_) (by rfl) (by first | exact Gd.want_t rfl rfl rfl | exact Gd.want_f rfl rfl rfl | exact Gd.want_mt rfl rfl rfl | exact Gd.want_mf rfl rfl rfl) ?_ ?_ ?_; rotate_left 2; (focus ((intro hb; have hb0 := hb; (try simp only [Bool.and_eq_true] at hb)); intro wx hS; go_simp; (first | done | with_reducible rfl))); (focus (with_reducible rfl)); (intro _ _)) | ((with_reducible refine Gd.is0 ?_); refine Gd.qp (v := ?_) (by rfl) (by rfl) (fun wx hS => ?_) ?_; rotate_left; (focus (go_simp; (first | done | with_reducible rfl)))) | ((with_reducible refine Gd.is1 ?_); refine Gd.gp (v := ?_) (by rfl) (by first | exact Gd.want_t rfl rfl rfl | exact Gd.want_f rfl rfl rfl | exact Gd.want_mt rfl rfl rfl | exact Gd.want_mf rfl rfl rfl) ?_ ?_; rotate_left; (focus ((intro hb; have hb0 := hb; (try simp only [Bool.and_eq_true] at hb)); intro wx hS; go_simp; (first | done | with_reducible rfl))))); (try simp only [Act.put, List.setIfInBounds_toArray, List.set_cons_zero, List.set_cons_succ]))
   refine Ch.done ?_
   try simp only [List.drop_succ_cons, List.drop_zero]
   go_upto_region 14 with (fail)
   ·have hb : lbadI k hl at0 q s mo = true := by
     unfold Hid at *
     subst_vars
     first | assumption | (symm; assumption)
    obtain rfl : q12 = true := by rw [← Q12.out]; exact hb
    obtain ⟨rfl, rfl⟩ : t = 0 ∧ e = 362 := by have := HB.out; simpa using this
    go_ret2
    exact ⟨rfl, hs.drop⟩
   obtain rfl : q12 = false := by
    rw [← Q12.out]
    unfold Hid at *
    subst_vars
    first | assumption | (symm; assumption)
   go_upto_region 15 with (first | ((with_reducible refine Se.isL (o := ⟨some 140, _, _, _, _, _⟩) ?_); (refine Se.toL rfl (Se.ldw (o := ⟨some 140, _, _, _, _, _⟩) hs rfl rfl ((Reads.blk 0 rfl)) ((by rw [FL.out]; kernel_rfl)) (by kernel_rfl) ?_))) | (go_at_call 38; refine Calls.mono (CDS.out [_] _ hs) ?_; clear hs; rintro e w ⟨rfl, hs⟩))
   refine Gd.plain 38 (fun wx => Rd wx (some ⟨g, off, none⟩) (bs.map v8) ∧ Blk wx g3 F 23) (fun | 10 => true | 30 => true | _ => false) rfl (⟨HS.out _ (fun a ha => hs.hold a (by simp [ha])), hs.hold (.blk g3 23 F) (by simp)⟩) ?_
   change Ch.CW _ _ _ _ _ [0, 1, 2, 3, 4, 5, 6, 7, 8, 9, 10, 11, 12, 13, 14, 15, 16, 17, 18, 19, 20, 21, 22, 23, 24, 25, 26, 27, 28, 29, 30, 31, 32, 33, 34, 35, 36, 37] _ _
   iterate 10 (refine Gd.look (by rfl) ?_; (first | ((with_reducible refine Gd.isPick0 ?_); refine Gd.qpick (b := _) (v := ?_) (e := ?_) (by rfl) (by rfl) (by rfl) (by rfl) ?_ ?_ ?_; rotate_left 2; (focus (go_simp; (first | done | with_reducible rfl))); (focus (with_reducible rfl)); (intro _ _)) | ((with_reducible refine Gd.isPick1 ?_); refine Gd.gpick (b := ?_) (v := ?_) (e := ?_) (by rfl) (by rfl) (by first | exact Gd.want_t rfl rfl rfl | exact Gd.want_f rfl rfl rfl | exact Gd.want_mt rfl rfl rfl | exact Gd.want_mf rfl rfl rfl) ?_ ?_ ?_; rotate_left 3; (focus ((intro hb; have hb0 := hb; (try simp only [Bool.and_eq_true] at hb)); refine ⟨?_, ?_⟩ <;> (go_simp; (first | done | with_reducible rfl)))); (focus (with_reducible rfl)); (intro _ _)) | ((with_reducible refine Gd.isBin0 (ty := 4) ?_); refine Gd.qb (v := ?_) (e := ?_) (by rfl) (by rfl) (fun wx hS => ?_) ?_ ?_; rotate_left 2; (focus (go_simp; (first | done | with_reducible rfl))); (focus (with_reducible rfl)); (intro _ _)) | ((with_reducible refine Gd.isUn0 (ty := 4) ?_); refine Gd.qb (v := ?_) (e := ?_) (by rfl) (by rfl) (fun wx hS => ?_) ?_ ?_; rotate_left 2; (focus (go_simp; (first | done | with_reducible rfl))); (focus (with_reducible rfl)); (intro _ _)) | ((with_reducible refine Gd.isBin1 (ty := 4) ?_); refine Gd.gb (v := ?_) (e := ?_) (by rfl) (by first | exact Gd.want_t rfl rfl rfl | exact Gd.want_f rfl rfl rfl | exact Gd.want_mt rfl rfl rfl | exact Gd.want_mf rfl rfl rfl) ?_ ?_ ?_; rotate_left 2; (focus ((intro hb; have hb0 := hb; (try simp only [Bool.and_eq_true] at hb)); intro wx hS; go_simp; (first | done | with_reducible rfl))); (focus (with_reducible rfl)); (intro _ _)) | ((with_reducible refine Gd.isUn1 (ty := 4) ?_); refine Gd.gb (v := ?_) (e := ?_) (by rfl) (by first | exact Gd.want_t rfl rfl rfl | exact Gd.want_f rfl rfl rfl | exact Gd.want_mt rfl rfl rfl | exact Gd.want_mf rfl rfl rfl) ?_ ?_ ?_; rotate_left 2; (focus ((intro hb; have hb0 := hb; (try simp only [Bool.and_eq_true] at hb)); intro wx hS; go_simp; (first | done | with_reducible rfl))); (focus (with_reducible rfl)); (intro _ _)) | ((with_reducible refine Gd.is0 ?_); refine Gd.qp (v := ?_) (by rfl) (by rfl) (fun wx hS => ?_) ?_; rotate_left; (focus (go_simp; (first | done | with_reducible rfl)))) | ((with_reducible refine Gd.is1 ?_); refine Gd.gp (v := ?_) (by rfl) (by first | exact Gd.want_t rfl rfl rfl | exact Gd.want_f rfl rfl rfl | exact Gd.want_mt rfl rfl rfl | exact Gd.want_mf rfl rfl rfl) ?_ ?_; rotate_left; (focus ((intro hb; have hb0 := hb; (try simp only [Bool.and_eq_true] at hb)); intro wx hS; go_simp; (first | done | with_reducible rfl))))); (try simp only [Act.put, List.setIfInBounds_toArray, List.set_cons_zero, List.set_cons_succ]))
   refine Gd.gn (v := iv q) (by rfl) (by rfl) (by first | exact Gd.want_t rfl rfl rfl | exact Gd.want_f rfl rfl rfl | exact Gd.want_mt rfl rfl rfl | exact Gd.want_mf rfl rfl rfl) hs (fun hb => ?_) (fun w hT => ?_)
   ·(try simp only [Bool.and_eq_true] at hb)
    refine Se.gcall (f := 31) (args := #[.int .i64 (k : Int)]) ?_ ?_
    ·go_simp
    refine Calls.mono (CH.out [_] _ hs) ?_
    clear hs
    rintro e w ⟨rfl, hs⟩
    exact ⟨_, rfl, rfl, hs⟩
   clear hs
   have hs := hT
   clear hT
   refine ⟨⟨HS.out _ (fun a ha => hs.hold a (by simp [ha])), hs.hold (.blk g3 23 F) (by simp)⟩, ?_⟩
   (try simp only [Act.put, List.setIfInBounds_toArray, List.set_cons_zero, List.set_cons_succ])
   iterate 19 (refine Gd.look (by rfl) ?_; (first | ((with_reducible refine Gd.isPick0 ?_); refine Gd.qpick (b := _) (v := ?_) (e := ?_) (by rfl) (by rfl) (by rfl) (by rfl) ?_ ?_ ?_; rotate_left 2; (focus (go_simp; (first | done | with_reducible rfl))); (focus (with_reducible rfl)); (intro _ _)) | ((with_reducible refine Gd.isPick1 ?_); refine Gd.gpick (b := ?_) (v := ?_) (e := ?_) (by rfl) (by rfl) (by first | exact Gd.want_t rfl rfl rfl | exact Gd.want_f rfl rfl rfl | exact Gd.want_mt rfl rfl rfl | exact Gd.want_mf rfl rfl rfl) ?_ ?_ ?_; rotate_left 3; (focus ((intro hb; have hb0 := hb; (try simp only [Bool.and_eq_true] at hb)); refine ⟨?_, ?_⟩ <;> (go_simp; (first | done | with_reducible rfl)))); (focus (with_reducible rfl)); (intro _ _)) | ((with_reducible refine Gd.isBin0 (ty := 4) ?_); refine Gd.qb (v := ?_) (e := ?_) (by rfl) (by rfl) (fun wx hS => ?_) ?_ ?_; rotate_left 2; (focus (go_simp; (first | done | with_reducible rfl))); (focus (with_reducible rfl)); (intro _ _)) | ((with_reducible refine Gd.isUn0 (ty := 4) ?_); refine Gd.qb (v := ?_) (e := ?_) (by rfl) (by rfl) (fun wx hS => ?_) ?_ ?_; rotate_left 2; (focus (go_simp; (first | done | with_reducible rfl))); (focus (with_reducible rfl)); (intro _ _)) | ((with_reducible refine Gd.isBin1 (ty := 4) ?_); refine Gd.gb (v := ?_) (e := ?_) (by rfl) (by first | exact Gd.want_t rfl rfl rfl | exact Gd.want_f rfl rfl rfl | exact Gd.want_mt rfl rfl rfl | exact Gd.want_mf rfl rfl rfl) ?_ ?_ ?_; rotate_left 2; (focus ((intro hb; have hb0 := hb; (try simp only [Bool.and_eq_true] at hb)); intro wx hS; go_simp; (first | done | with_reducible rfl))); (focus (with_reducible rfl)); (intro _ _)) | ((with_reducible refine Gd.isUn1 (ty := 4) ?_); refine Gd.gb (v := ?_) (e := ?_) (by rfl) (by first | exact Gd.want_t rfl rfl rfl | exact Gd.want_f rfl rfl rfl | exact Gd.want_mt rfl rfl rfl | exact Gd.want_mf rfl rfl rfl) ?_ ?_ ?_; rotate_left 2; (focus ((intro hb; have hb0 := hb; (try simp only [Bool.and_eq_true] at hb)); intro wx hS; go_simp; (first | done | with_reducible rfl))); (focus (with_reducible rfl)); (intro _ _)) | ((with_reducible refine Gd.is0 ?_); refine Gd.qp (v := ?_) (by rfl) (by rfl) (fun wx hS => ?_) ?_; rotate_left; (focus (go_simp; (first | done | with_reducible rfl)))) | ((with_reducible refine Gd.is1 ?_); refine Gd.gp (v := ?_) (by rfl) (by first | exact Gd.want_t rfl rfl rfl | exact Gd.want_f rfl rfl rfl | exact Gd.want_mt rfl rfl rfl | exact Gd.want_mf rfl rfl rfl) ?_ ?_; rotate_left; (focus ((intro hb; have hb0 := hb; (try simp only [Bool.and_eq_true] at hb)); intro wx hS; go_simp; (first | done | with_reducible rfl))))); (try simp only [Act.put, List.setIfInBounds_toArray, List.set_cons_zero, List.set_cons_succ]))
   refine Gd.gn (v := iv mo) (by rfl) (by rfl) (by first | exact Gd.want_t rfl rfl rfl | exact Gd.want_f rfl rfl rfl | exact Gd.want_mt rfl rfl rfl | exact Gd.want_mf rfl rfl rfl) hs (fun hb => ?_) (fun w hT => ?_)
   ·(try simp only [Bool.and_eq_true] at hb)
    refine Se.gcall (f := 32) (args := #[.int .i64 (k : Int)]) ?_ ?_
    ·go_simp
    refine Calls.mono (CMO.out [_] _ hs) ?_
    clear hs
    rintro e w ⟨rfl, hs⟩
    exact ⟨_, rfl, rfl, hs⟩
   clear hs
   have hs := hT
   clear hT
   refine ⟨⟨HS.out _ (fun a ha => hs.hold a (by simp [ha])), hs.hold (.blk g3 23 F) (by simp)⟩, ?_⟩
   (try simp only [Act.put, List.setIfInBounds_toArray, List.set_cons_zero, List.set_cons_succ])
   iterate 7 (refine Gd.look (by rfl) ?_; (first | ((with_reducible refine Gd.isPick0 ?_); refine Gd.qpick (b := _) (v := ?_) (e := ?_) (by rfl) (by rfl) (by rfl) (by rfl) ?_ ?_ ?_; rotate_left 2; (focus (go_simp; (first | done | with_reducible rfl))); (focus (with_reducible rfl)); (intro _ _)) | ((with_reducible refine Gd.isPick1 ?_); refine Gd.gpick (b := ?_) (v := ?_) (e := ?_) (by rfl) (by rfl) (by first | exact Gd.want_t rfl rfl rfl | exact Gd.want_f rfl rfl rfl | exact Gd.want_mt rfl rfl rfl | exact Gd.want_mf rfl rfl rfl) ?_ ?_ ?_; rotate_left 3; (focus ((intro hb; have hb0 := hb; (try simp only [Bool.and_eq_true] at hb)); refine ⟨?_, ?_⟩ <;> (go_simp; (first | done | with_reducible rfl)))); (focus (with_reducible rfl)); (intro _ _)) | ((with_reducible refine Gd.isBin0 (ty := 4) ?_); refine Gd.qb (v := ?_) (e := ?_) (by rfl) (by rfl) (fun wx hS => ?_) ?_ ?_; rotate_left 2; (focus (go_simp; (first | done | with_reducible rfl))); (focus (with_reducible rfl)); (intro _ _)) | ((with_reducible refine Gd.isUn0 (ty := 4) ?_); refine Gd.qb (v := ?_) (e := ?_) (by rfl) (by rfl) (fun wx hS => ?_) ?_ ?_; rotate_left 2; (focus (go_simp; (first | done | with_reducible rfl))); (focus (with_reducible rfl)); (intro _ _)) | ((with_reducible refine Gd.isBin1 (ty := 4) ?_); refine Gd.gb (v := ?_) (e := ?_) (by rfl) (by first | exact Gd.want_t rfl rfl rfl | exact Gd.want_f rfl rfl rfl | exact Gd.want_mt rfl rfl rfl | exact Gd.want_mf rfl rfl rfl) ?_ ?_ ?_; rotate_left 2; (focus ((intro hb; have hb0 := hb; (try simp only [Bool.and_eq_true] at hb)); intro wx hS; go_simp; (first | done | with_reducible rfl))); (focus (with_reducible rfl)); (intro _ _)) | ((with_reducible refine Gd.isUn1 (ty := 4) ?_); refine Gd.gb (v := ?_) (e := ?_) (by rfl) (by first | exact Gd.want_t rfl rfl rfl | exact Gd.want_f rfl rfl rfl | exact Gd.want_mt rfl rfl rfl | exact Gd.want_mf rfl rfl rfl) ?_ ?_ ?_; rotate_left 2; (focus ((intro hb; have hb0 := hb; (try simp only [Bool.and_eq_true] at hb)); intro wx hS; go_simp; (first | done | with_reducible rfl))); (focus (with_reducible rfl)); (intro _ _)) | ((with_reducible refine Gd.is0 ?_); refine Gd.qp (v := ?_) (by rfl) (by rfl) (fun wx hS => ?_) ?_; rotate_left; (focus (go_simp; (first | done | with_reducible rfl)))) | ((with_reducible refine Gd.is1 ?_); refine Gd.gp (v := ?_) (by rfl) (by first | exact Gd.want_t rfl rfl rfl | exact Gd.want_f rfl rfl rfl | exact Gd.want_mt rfl rfl rfl | exact Gd.want_mf rfl rfl rfl) ?_ ?_; rotate_left; (focus ((intro hb; have hb0 := hb; (try simp only [Bool.and_eq_true] at hb)); intro wx hS; go_simp; (first | done | with_reducible rfl))))); (try simp only [Act.put, List.setIfInBounds_toArray, List.set_cons_zero, List.set_cons_succ]))
   refine Ch.done ?_
   go_upto_region 17 with (fail)
   ·have hb : tbadI fg at0 tot q h d mo = true := by
     unfold Hid at *
     subst_vars
     first | assumption | (symm; assumption)
    obtain rfl : q15 = true := by rw [← Q15.out]; exact hb
    obtain ⟨rfl, rfl⟩ : t = 0 ∧ e = 362 := by have := HB.out; simpa using this
    go_ret2
    exact ⟨rfl, hs.drop⟩
   obtain rfl : q15 = false := by
    rw [← Q15.out]
    unfold Hid at *
    subst_vars
    first | assumption | (symm; assumption)
   obtain ⟨rfl, rfl⟩ : t = tot ∧ e = 0 := by have := HB.out; simpa using this
   go_wp2_with fail
   go_ret2
   exact ⟨rfl, hs.drop⟩
end Pd
end Go.Proofs.Ytdngfcmakjlamaa


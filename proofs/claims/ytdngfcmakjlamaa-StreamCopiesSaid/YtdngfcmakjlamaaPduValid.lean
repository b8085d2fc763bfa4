/- Layer 35: which PDU values are valid, as the program tests it. No condition but Go's own limits. -/
import Derived.Test.YtdngfcmakjlamaaPduSpare
set_option linter.unusedSimpArgs false
set_option linter.unusedVariables false
namespace Go.Proofs.Ytdngfcmakjlamaa
open Go Go.RowKit
namespace Pd
open Se (St At Reads Cell)
open Li (v8 v8_one Rd Blk Fr)
open Bv (n8 n16 n32 n64)
variable {w0 w : World} {X : List Nat} {L : List At}
attribute [local irreducible] Calls
def ownv (k : Nat) (h : Hd) : Bool :=
 match k with
 | 0 => decide (h.al.toNat ≤ 31 ∧ h.dg.toNat ≤ 3)
 | 1 => decide (h.al.toNat ≤ 31 ∧ h.dg.toNat ≤ 3 ∧ 4096 ≤ h.mx.toNat ∧ h.mx.toNat % 4 = 0)
 | 9 => decide (0 < h.ln.toNat)
 | _ => true
def spL (k : Nat) (en : List (BitVec 8)) : List (BitVec 8) := if k = 4 ∨ k = 5 then [] else en
def pv (p : PDU) : Bool :=
 let k := p.h.k.toNat
 decide (hdr k ≠ 0) && !(decide (p.en.length ≠ entl k)) && !(decide (p.da.length < least k)) && !(decide (most k < p.da.length)) && (spL k p.en == [] && eqH (sp k p.h) {}) && ownv k p.h
theorem valid_eq (p : PDU) : valid p = pv p := by
 obtain ⟨h, en, da⟩ := p
 obtain ⟨k, la, su, id, tg, of, ln, al, dg, mx, st, nf⟩ := h
 unfold pv
 dsimp only
 rw [eqH_iff]
 obtain ⟨q, hq⟩ : ∃ q, q = k.toNat := ⟨_, rfl⟩
 unfold valid only own
 dsimp only
 rw [← hq]
 clear hq
 have h0 : (q = 0 ∨ q = 1 ∨ q = 2 ∨ q = 3 ∨ q = 4 ∨ q = 5 ∨ q = 6 ∨ q = 7 ∨ q = 9) ∨ hdr q = 0 := by
  rcases kinds_cases q with h | h
  ·exact .inl h
  ·exact .inr (hdr_none q h)
 rcases h0 with (rfl | rfl | rfl | rfl | rfl | rfl | rfl | rfl | rfl) | h0
 all_goals first
  | (rw [h0]; rfl)
  | (rw [Bool.eq_iff_iff]; simp only [hdr, most, entl, least, sp, spL, ownv]; simp; (try simp only [List.length_pos_iff]); (try grind))
theorem own_fn (k : Nat) (hk : hdr k ≠ 0) : ∃ n, valF k = fnv n ∧ (n = 75 ∨ n = 78 ∨ n = 86 ∨ n = 79) ∧ ∀ {w0 w : World} {X : List Nat} {L : List At} {h : Hd} {EA DA : Option Addr} {en ec dn dc : Nat}, St w0 X L w → Calls Try.prog n #[.agg (pc h EA en ec DA dn dc).toArray] w fun e w' => e = .returned (.bool (ownv k h)) ∧ St w0 X L w' := by
 have key : k = 0 ∨ k = 1 ∨ k = 9 ∨ (k = 2 ∨ k = 3 ∨ k = 4 ∨ k = 5 ∨ k = 6 ∨ k = 7) := by
  rcases kinds_cases k with h | h
  ·omega
  ·exact absurd (hdr_none k h) hk
 rcases key with rfl | rfl | rfl | rfl | rfl | rfl | rfl | rfl | rfl
 ·exact ⟨_, rfl, .inl rfl, fun hs => validInit_st hs⟩
 ·exact ⟨_, rfl, .inr (.inl rfl), fun hs => validResponse_st hs⟩
 ·exact ⟨_, rfl, .inr (.inr (.inl rfl)), fun hs => validReady_st hs⟩
 all_goals exact ⟨_, rfl, .inr (.inr (.inr rfl)), fun hs => always_st hs⟩
theorem bpdu0 (w : World) : (Instr.build 41 #[]).run Try.prog w = .ok (.agg (pc {} none 0 0 none 0 0).toArray) w := by kernel_rfl
theorem spL_reads {L : List At} {k : Nat} {EA : Option Addr} {en : List (BitVec 8)} (h : Reads L EA (en.map v8)) : Reads L (spE k EA) ((spL k en).map v8) := by
 unfold spE spL
 by_cases hk : k = 4 ∨ k = 5
 ·rw [if_pos hk, if_pos hk]; exact Reads.nil
 ·rw [if_neg hk, if_neg hk]; exact h
set_option maxRecDepth 100000 in
set_option maxHeartbeats 4000000 in
theorem validP_st (hs : St w0 X L w) (p : PDU) {EA DA : Option Addr} {en ec dn dc : Nat} (hE : Reads L EA (p.en.map v8)) (hD : Reads L DA (p.da.map v8)) (he : en = p.en.length) (hd : dn = p.da.length) (le : en ≤ 70368744177664) (ld : dn ≤ 70368744177664) {b : Bool} (hb : valid p = b) :
  Calls Try.prog 64 #[.agg (pc p.h EA en ec DA dn dc).toArray] w fun e w' => e = .returned (.bool b) ∧ St w0 X L w' := by
 obtain ⟨k, hk⟩ : ∃ k, k = p.h.k.toNat := ⟨_, rfl⟩
 have hkl : k < 256 := by rw [hk]; exact p.h.k.isLt
 obtain ⟨P, hP⟩ : ∃ P, P = pc p.h EA en ec DA dn dc := ⟨_, rfl⟩
 obtain ⟨Q, hQ⟩ : ∃ Q, Q = pc (sp k p.h) (spE k EA) (spN k en) (spN k ec) none 0 0 := ⟨_, rfl⟩
 obtain ⟨Z, hZ⟩ : ∃ Z, Z = pc {} none 0 0 none 0 0 := ⟨_, rfl⟩
 obtain ⟨xs, hxs⟩ : ∃ xs, shV k = xs := ⟨_, rfl⟩
 obtain ⟨b1, hb1⟩ : ∃ b1, decide (hdr k ≠ 0) = b1 := ⟨_, rfl⟩
 obtain ⟨b2, hb2⟩ : ∃ b2, decide (p.en.length ≠ entl k) = b2 := ⟨_, rfl⟩
 obtain ⟨b3, hb3⟩ : ∃ b3, decide (p.da.length < least k) = b3 := ⟨_, rfl⟩
 obtain ⟨b4, hb4⟩ : ∃ b4, decide (most k < p.da.length) = b4 := ⟨_, rfl⟩
 obtain ⟨b5, hb5⟩ : ∃ b5, (spL k p.en == [] && eqH (sp k p.h) {}) = b5 := ⟨_, rfl⟩
 obtain ⟨b6, hb6⟩ : ∃ b6, ownv k p.h = b6 := ⟨_, rfl⟩
 have HB : Hid ((b1 && !b2 && !b3 && !b4 && b5 && b6) = b) := Lib.hid (by rw [← hb, valid_eq, ← hb1, ← hb2, ← hb3, ← hb4, ← hb5, ← hb6, hk]; rfl)
 have PL := Lib.hid (show P.length = 14 by rw [hP]; rfl)
 have P0 := Lib.hid (show P[0]? = some (.int .u8 (k : Int)) by rw [hP, hk]; rfl)
 have P3 := Lib.hid (show P[3]? = some (.slice EA en ec) by rw [hP]; rfl)
 have P13 := Lib.hid (show P[13]? = some (.slice DA dn dc) by rw [hP]; rfl)
 have XL := Lib.hid (show xs.length = 7 by rw [← hxs, shV_eq]; rfl)
 have X1 := Lib.hid (show xs[1]? = some (iv (entl k)) by rw [← hxs, shV_eq]; rfl)
 have X2 := Lib.hid (show xs[2]? = some (iv (least k)) by rw [← hxs, shV_eq]; rfl)
 have X3 := Lib.hid (show xs[3]? = some (iv (most k)) by rw [← hxs, shV_eq]; rfl)
 have X4 := Lib.hid (show xs[4]? = some (valF k) by rw [← hxs, shV_eq]; rfl)
 have XO := Lib.hid (show ∀ v ∈ xs, v.oneCell' = true by rw [← hxs]; exact shV_one k)
 have ZS := Lib.hid zShape
 have ZSL := Lib.hid (show (shV 8).length = 7 by rw [shV_eq]; rfl)
 have e2 : ((en : Int) != (entl k : Int)) = b2 := by rw [← hb2, he]; rw [Bool.eq_iff_iff]; simp; omega
 have e3 : decide (dn < least k) = b3 := by rw [← hb3, hd]
 have e4 : decide (most k < dn) = b4 := by rw [← hb4, hd]
 have CO : Hid (∀ (L' : List At) (w : World), St w0 X (L' ++ L) w → Calls Try.prog 51 #[.int .u8 k] w fun e w' => e = .returned (.tuple #[.agg xs.toArray, .bool b1]) ∧ St w0 X (L' ++ L) w') := Lib.hid (fun L' w hs => of_st hs k hkl hb1 hxs)
 have CS : Hid (∀ (L' : List At) (w : World), St w0 X (L' ++ L) w → Calls Try.prog 74 #[.agg P.toArray] w fun e w' => e = .returned (.agg Q.toArray) ∧ St w0 X (L' ++ L) w') := Lib.hid (fun L' w hs => by rw [hP, hQ]; exact spare_st hs p.h hk.symm)
 have CE : Hid (∀ (L' : List At) (w : World), St w0 X (L' ++ L) w → Calls Try.prog 73 #[.agg Q.toArray, .agg Z.toArray] w fun e w' => e = .returned (.bool b5) ∧ St w0 X (L' ++ L) w') := Lib.hid (fun L' w hs => by
  rw [hQ, hZ]
  refine equalP_st hs (sp k p.h) {} (es := spL k p.en) (fs := []) (da := []) (db := []) ?_ rfl rfl rfl ?_ Reads.nil Reads.nil Reads.nil ?_ (by decide) (by rw [← hb5]; simp)
  ·unfold spN spL; split <;> first | rfl | exact he
  ·exact spL_reads (hE.app L')
  ·unfold spN; split <;> omega)
 have BZ : Hid (∀ w : World, (Instr.build 41 #[]).run Try.prog w = .ok (.agg Z.toArray) w) := Lib.hid (by rw [hZ]; exact bpdu0)
 have CV : Hid (b1 = true → ∃ n, valF k = fnv n ∧ (n = 75 ∨ n = 78 ∨ n = 86 ∨ n = 79) ∧ ∀ (L' : List At) (w : World), St w0 X (L' ++ L) w → Calls Try.prog n #[.agg P.toArray] w fun e w' => e = .returned (.bool b6) ∧ St w0 X (L' ++ L) w') := Lib.hid (fun hb => by
  obtain ⟨n, h1, h3, h2⟩ := own_fn k (by rw [hb] at hb1; simpa using hb1)
  refine ⟨n, h1, h3, fun L' w hs => ?_⟩
  rw [hP, ← hb6]
  exact h2 hs)
 obtain ⟨E1, hE1⟩ : ∃ E1, E1 = entl k := ⟨_, rfl⟩
 obtain ⟨E2, hE2⟩ : ∃ E2, E2 = least k := ⟨_, rfl⟩
 obtain ⟨E3, hE3⟩ : ∃ E3, E3 = most k := ⟨_, rfl⟩
 rw [← hE1] at X1 e2
 rw [← hE2] at X2 e3
 rw [← hE3] at X3 e4
 rw [← hP]
 clear hP hQ hZ hxs hb1 hb2 hb3 hb4 hb5 hb6 hb hE hD he hd le ld hk hkl hE1 hE2 hE3
 cases b1 with
 | false =>
  obtain rfl : b = false := HB.out.symm
  clear e2 e3 e4
  go_enter Try.func64, Try.ntmps64
  go_wp2_with (first | ((with_reducible refine Se.isL (o := ⟨some 7, _, _, _, _, _⟩) ?_); (refine Se.toL rfl (Se.ld (o := ⟨some 7, _, _, _, _, _⟩) hs rfl rfl (Cell.blk 0 rfl P0.out) (by kernel_rfl) ?_))) | ((with_reducible refine Se.isL (o := ⟨some 3, _, _, _, _, _⟩) ?_); (refine Se.toL rfl (Se.al (o := ⟨some 3, _, _, _, _, _⟩) hs rfl (ZS.out) ?_); clear hs; rintro w g3 - hs)) | ((with_reducible refine Se.isL (o := ⟨none, Op.store 99 _ _, _, _, _, _⟩) ?_); (refine Se.toL rfl (Se.sow 0 hs rfl rfl rfl rfl (XO.out) ((by rw [XL.out]; kernel_rfl)) ((by rw [XL.out, ZSL.out])) ?_); clear hs; intro w hs; try simp only [List.cons_append, List.nil_append, List.set_cons_zero] at hs)) | ((first | with_reducible refine Se.ab hs ?_ | with_reducible refine Se.abc hs ?_); clear hs; (first | (generalize w.heap.size = g1; intro w hs))) | (go_at_call 51; refine Calls.mono (CO.out [_] _ hs) ?_; clear hs; rintro e w ⟨rfl, hs⟩))
  go_ret
  exact ⟨rfl, hs.drop.drop⟩
 | true =>
  cases b2 with
  | true =>
   obtain rfl : b = false := HB.out.symm
   clear e3 e4
   go_enter Try.func64, Try.ntmps64
   go_wp2_with (first | ((with_reducible refine Se.isL (o := ⟨some 7, _, _, _, _, _⟩) ?_); (refine Se.toL rfl (Se.ld (o := ⟨some 7, _, _, _, _, _⟩) hs rfl rfl (Cell.blk 0 rfl P0.out) (by kernel_rfl) ?_))) | ((with_reducible refine Se.isL (o := ⟨some 3, _, _, _, _, _⟩) ?_); (refine Se.toL rfl (Se.al (o := ⟨some 3, _, _, _, _, _⟩) hs rfl (ZS.out) ?_); clear hs; rintro w g3 - hs)) | ((with_reducible refine Se.isL (o := ⟨none, Op.store 99 _ _, _, _, _, _⟩) ?_); (refine Se.toL rfl (Se.sow 0 hs rfl rfl rfl rfl (XO.out) ((by rw [XL.out]; kernel_rfl)) ((by rw [XL.out, ZSL.out])) ?_); clear hs; intro w hs; try simp only [List.cons_append, List.nil_append, List.set_cons_zero] at hs)) | ((with_reducible refine Se.isL (o := ⟨some 15, _, _, _, _, _⟩) ?_); (refine Se.toL rfl (Se.ld (o := ⟨some 15, _, _, _, _, _⟩) hs rfl rfl (Cell.blk 1 rfl P3.out) (by kernel_rfl) ?_))) | ((with_reducible refine Se.isL (o := ⟨some 18, _, _, _, _, _⟩) ?_); (refine Se.toL rfl (Se.ld (o := ⟨some 18, _, _, _, _, _⟩) hs rfl rfl (Cell.blk 0 rfl X1.out) (by kernel_rfl) ?_))) | ((first | with_reducible refine Se.ab hs ?_ | with_reducible refine Se.abc hs ?_); clear hs; (first | (generalize w.heap.size = g1; intro w hs))) | (go_at_call 51; refine Calls.mono (CO.out [_] _ hs) ?_; clear hs; rintro e w ⟨rfl, hs⟩))
   go_ret
   exact ⟨rfl, hs.drop.drop⟩
  | false =>
   cases b3 with
   | true =>
    obtain rfl : b = false := HB.out.symm
    clear e4
    go_enter Try.func64, Try.ntmps64
    go_wp2_with (first | ((with_reducible refine Se.isL (o := ⟨some 7, _, _, _, _, _⟩) ?_); (refine Se.toL rfl (Se.ld (o := ⟨some 7, _, _, _, _, _⟩) hs rfl rfl (Cell.blk 0 rfl P0.out) (by kernel_rfl) ?_))) | ((with_reducible refine Se.isL (o := ⟨some 3, _, _, _, _, _⟩) ?_); (refine Se.toL rfl (Se.al (o := ⟨some 3, _, _, _, _, _⟩) hs rfl (ZS.out) ?_); clear hs; rintro w g3 - hs)) | ((with_reducible refine Se.isL (o := ⟨none, Op.store 99 _ _, _, _, _, _⟩) ?_); (refine Se.toL rfl (Se.sow 0 hs rfl rfl rfl rfl (XO.out) ((by rw [XL.out]; kernel_rfl)) ((by rw [XL.out, ZSL.out])) ?_); clear hs; intro w hs; try simp only [List.cons_append, List.nil_append, List.set_cons_zero] at hs)) | ((with_reducible refine Se.isL (o := ⟨some 15, _, _, _, _, _⟩) ?_); (refine Se.toL rfl (Se.ld (o := ⟨some 15, _, _, _, _, _⟩) hs rfl rfl (Cell.blk 1 rfl P3.out) (by kernel_rfl) ?_))) | ((with_reducible refine Se.isL (o := ⟨some 18, _, _, _, _, _⟩) ?_); (refine Se.toL rfl (Se.ld (o := ⟨some 18, _, _, _, _, _⟩) hs rfl rfl (Cell.blk 0 rfl X1.out) (by kernel_rfl) ?_))) | ((with_reducible refine Se.isL (o := ⟨some 23, _, _, _, _, _⟩) ?_); (refine Se.toL rfl (Se.ld (o := ⟨some 23, _, _, _, _, _⟩) hs rfl rfl (Cell.blk 1 rfl P13.out) (by kernel_rfl) ?_))) | ((with_reducible refine Se.isL (o := ⟨some 26, _, _, _, _, _⟩) ?_); (refine Se.toL rfl (Se.ld (o := ⟨some 26, _, _, _, _, _⟩) hs rfl rfl (Cell.blk 0 rfl X2.out) (by kernel_rfl) ?_))) | ((first | with_reducible refine Se.ab hs ?_ | with_reducible refine Se.abc hs ?_); clear hs; (first | (generalize w.heap.size = g1; intro w hs))) | (go_at_call 51; refine Calls.mono (CO.out [_] _ hs) ?_; clear hs; rintro e w ⟨rfl, hs⟩))
    go_ret
    exact ⟨rfl, hs.drop.drop⟩
   | false =>
    cases b4 with
    | true =>
     obtain rfl : b = false := HB.out.symm
     go_enter Try.func64, Try.ntmps64
     go_wp2_with (first | ((with_reducible refine Se.isL (o := ⟨some 7, _, _, _, _, _⟩) ?_); (refine Se.toL rfl (Se.ld (o := ⟨some 7, _, _, _, _, _⟩) hs rfl rfl (Cell.blk 0 rfl P0.out) (by kernel_rfl) ?_))) | ((with_reducible refine Se.isL (o := ⟨some 3, _, _, _, _, _⟩) ?_); (refine Se.toL rfl (Se.al (o := ⟨some 3, _, _, _, _, _⟩) hs rfl (ZS.out) ?_); clear hs; rintro w g3 - hs)) | ((with_reducible refine Se.isL (o := ⟨none, Op.store 99 _ _, _, _, _, _⟩) ?_); (refine Se.toL rfl (Se.sow 0 hs rfl rfl rfl rfl (XO.out) ((by rw [XL.out]; kernel_rfl)) ((by rw [XL.out, ZSL.out])) ?_); clear hs; intro w hs; try simp only [List.cons_append, List.nil_append, List.set_cons_zero] at hs)) | ((with_reducible refine Se.isL (o := ⟨some 15, _, _, _, _, _⟩) ?_); (refine Se.toL rfl (Se.ld (o := ⟨some 15, _, _, _, _, _⟩) hs rfl rfl (Cell.blk 1 rfl P3.out) (by kernel_rfl) ?_))) | ((with_reducible refine Se.isL (o := ⟨some 18, _, _, _, _, _⟩) ?_); (refine Se.toL rfl (Se.ld (o := ⟨some 18, _, _, _, _, _⟩) hs rfl rfl (Cell.blk 0 rfl X1.out) (by kernel_rfl) ?_))) | ((with_reducible refine Se.isL (o := ⟨some 23, _, _, _, _, _⟩) ?_); (refine Se.toL rfl (Se.ld (o := ⟨some 23, _, _, _, _, _⟩) hs rfl rfl (Cell.blk 1 rfl P13.out) (by kernel_rfl) ?_))) | ((with_reducible refine Se.isL (o := ⟨some 26, _, _, _, _, _⟩) ?_); (refine Se.toL rfl (Se.ld (o := ⟨some 26, _, _, _, _, _⟩) hs rfl rfl (Cell.blk 0 rfl X2.out) (by kernel_rfl) ?_))) | ((with_reducible refine Se.isL (o := ⟨some 31, _, _, _, _, _⟩) ?_); (refine Se.toL rfl (Se.ld (o := ⟨some 31, _, _, _, _, _⟩) hs rfl rfl (Cell.blk 1 rfl P13.out) (by kernel_rfl) ?_))) | ((with_reducible refine Se.isL (o := ⟨some 34, _, _, _, _, _⟩) ?_); (refine Se.toL rfl (Se.ld (o := ⟨some 34, _, _, _, _, _⟩) hs rfl rfl (Cell.blk 0 rfl X3.out) (by kernel_rfl) ?_))) | ((first | with_reducible refine Se.ab hs ?_ | with_reducible refine Se.abc hs ?_); clear hs; (first | (generalize w.heap.size = g1; intro w hs))) | (go_at_call 51; refine Calls.mono (CO.out [_] _ hs) ?_; clear hs; rintro e w ⟨rfl, hs⟩))
     go_ret
     exact ⟨rfl, hs.drop.drop⟩
    | false =>
     cases b5 with
     | false =>
      obtain rfl : b = false := HB.out.symm
      go_enter Try.func64, Try.ntmps64
      go_wp2_with (first | ((with_reducible refine Se.isL (o := ⟨some 7, _, _, _, _, _⟩) ?_); (refine Se.toL rfl (Se.ld (o := ⟨some 7, _, _, _, _, _⟩) hs rfl rfl (Cell.blk 0 rfl P0.out) (by kernel_rfl) ?_))) | ((with_reducible refine Se.isL (o := ⟨some 3, _, _, _, _, _⟩) ?_); (refine Se.toL rfl (Se.al (o := ⟨some 3, _, _, _, _, _⟩) hs rfl (ZS.out) ?_); clear hs; rintro w g3 - hs)) | ((with_reducible refine Se.isL (o := ⟨none, Op.store 99 _ _, _, _, _, _⟩) ?_); (refine Se.toL rfl (Se.sow 0 hs rfl rfl rfl rfl (XO.out) ((by rw [XL.out]; kernel_rfl)) ((by rw [XL.out, ZSL.out])) ?_); clear hs; intro w hs; try simp only [List.cons_append, List.nil_append, List.set_cons_zero] at hs)) | ((with_reducible refine Se.isL (o := ⟨some 15, _, _, _, _, _⟩) ?_); (refine Se.toL rfl (Se.ld (o := ⟨some 15, _, _, _, _, _⟩) hs rfl rfl (Cell.blk 1 rfl P3.out) (by kernel_rfl) ?_))) | ((with_reducible refine Se.isL (o := ⟨some 18, _, _, _, _, _⟩) ?_); (refine Se.toL rfl (Se.ld (o := ⟨some 18, _, _, _, _, _⟩) hs rfl rfl (Cell.blk 0 rfl X1.out) (by kernel_rfl) ?_))) | ((with_reducible refine Se.isL (o := ⟨some 23, _, _, _, _, _⟩) ?_); (refine Se.toL rfl (Se.ld (o := ⟨some 23, _, _, _, _, _⟩) hs rfl rfl (Cell.blk 1 rfl P13.out) (by kernel_rfl) ?_))) | ((with_reducible refine Se.isL (o := ⟨some 26, _, _, _, _, _⟩) ?_); (refine Se.toL rfl (Se.ld (o := ⟨some 26, _, _, _, _, _⟩) hs rfl rfl (Cell.blk 0 rfl X2.out) (by kernel_rfl) ?_))) | ((with_reducible refine Se.isL (o := ⟨some 31, _, _, _, _, _⟩) ?_); (refine Se.toL rfl (Se.ld (o := ⟨some 31, _, _, _, _, _⟩) hs rfl rfl (Cell.blk 1 rfl P13.out) (by kernel_rfl) ?_))) | ((with_reducible refine Se.isL (o := ⟨some 34, _, _, _, _, _⟩) ?_); (refine Se.toL rfl (Se.ld (o := ⟨some 34, _, _, _, _, _⟩) hs rfl rfl (Cell.blk 0 rfl X3.out) (by kernel_rfl) ?_))) | ((with_reducible refine Se.isL (o := ⟨some 37, _, _, _, _, _⟩) ?_); (refine Se.toL rfl (Se.ldw (o := ⟨some 37, _, _, _, _, _⟩) hs rfl rfl ((Reads.blk 1 rfl)) ((by rw [PL.out]; kernel_rfl)) (by kernel_rfl) ?_))) | ((with_reducible refine Se.isL (o := ⟨some 39, _, _, _, _, _⟩) ?_); (refine Se.toL rfl (Se.bd (o := ⟨some 39, _, _, _, _, _⟩) rfl rfl (BZ.out _) ?_))) | ((first | with_reducible refine Se.ab hs ?_ | with_reducible refine Se.abc hs ?_); clear hs; (first | (generalize w.heap.size = g1; intro w hs))) | (go_at_call 51; refine Calls.mono (CO.out [_] _ hs) ?_; clear hs; rintro e w ⟨rfl, hs⟩) | (go_at_call 74; refine Calls.mono (CS.out [_, _] _ hs) ?_; clear hs; rintro e w ⟨rfl, hs⟩) | (go_at_call 73; refine Calls.mono (CE.out [_, _] _ hs) ?_; clear hs; rintro e w ⟨rfl, hs⟩))
      go_ret
      exact ⟨rfl, hs.drop.drop⟩
     | true =>
      obtain rfl : b = b6 := HB.out.symm
      obtain ⟨n, hn, hnn, CN⟩ := CV.out rfl
      rw [hn] at X4
      replace CN := Lib.hid CN
      clear hn CV
      rcases hnn with rfl | rfl | rfl | rfl
      ·go_enter Try.func64, Try.ntmps64
       go_wp2_with (first | ((with_reducible refine Se.isL (o := ⟨some 7, _, _, _, _, _⟩) ?_); (refine Se.toL rfl (Se.ld (o := ⟨some 7, _, _, _, _, _⟩) hs rfl rfl (Cell.blk 0 rfl P0.out) (by kernel_rfl) ?_))) | ((with_reducible refine Se.isL (o := ⟨some 3, _, _, _, _, _⟩) ?_); (refine Se.toL rfl (Se.al (o := ⟨some 3, _, _, _, _, _⟩) hs rfl (ZS.out) ?_); clear hs; rintro w g3 - hs)) | ((with_reducible refine Se.isL (o := ⟨none, Op.store 99 _ _, _, _, _, _⟩) ?_); (refine Se.toL rfl (Se.sow 0 hs rfl rfl rfl rfl (XO.out) ((by rw [XL.out]; kernel_rfl)) ((by rw [XL.out, ZSL.out])) ?_); clear hs; intro w hs; try simp only [List.cons_append, List.nil_append, List.set_cons_zero] at hs)) | ((with_reducible refine Se.isL (o := ⟨some 15, _, _, _, _, _⟩) ?_); (refine Se.toL rfl (Se.ld (o := ⟨some 15, _, _, _, _, _⟩) hs rfl rfl (Cell.blk 1 rfl P3.out) (by kernel_rfl) ?_))) | ((with_reducible refine Se.isL (o := ⟨some 18, _, _, _, _, _⟩) ?_); (refine Se.toL rfl (Se.ld (o := ⟨some 18, _, _, _, _, _⟩) hs rfl rfl (Cell.blk 0 rfl X1.out) (by kernel_rfl) ?_))) | ((with_reducible refine Se.isL (o := ⟨some 23, _, _, _, _, _⟩) ?_); (refine Se.toL rfl (Se.ld (o := ⟨some 23, _, _, _, _, _⟩) hs rfl rfl (Cell.blk 1 rfl P13.out) (by kernel_rfl) ?_))) | ((with_reducible refine Se.isL (o := ⟨some 26, _, _, _, _, _⟩) ?_); (refine Se.toL rfl (Se.ld (o := ⟨some 26, _, _, _, _, _⟩) hs rfl rfl (Cell.blk 0 rfl X2.out) (by kernel_rfl) ?_))) | ((with_reducible refine Se.isL (o := ⟨some 31, _, _, _, _, _⟩) ?_); (refine Se.toL rfl (Se.ld (o := ⟨some 31, _, _, _, _, _⟩) hs rfl rfl (Cell.blk 1 rfl P13.out) (by kernel_rfl) ?_))) | ((with_reducible refine Se.isL (o := ⟨some 34, _, _, _, _, _⟩) ?_); (refine Se.toL rfl (Se.ld (o := ⟨some 34, _, _, _, _, _⟩) hs rfl rfl (Cell.blk 0 rfl X3.out) (by kernel_rfl) ?_))) | ((with_reducible refine Se.isL (o := ⟨some 37, _, _, _, _, _⟩) ?_); (refine Se.toL rfl (Se.ldw (o := ⟨some 37, _, _, _, _, _⟩) hs rfl rfl ((Reads.blk 1 rfl)) ((by rw [PL.out]; kernel_rfl)) (by kernel_rfl) ?_))) | ((with_reducible refine Se.isL (o := ⟨some 39, _, _, _, _, _⟩) ?_); (refine Se.toL rfl (Se.bd (o := ⟨some 39, _, _, _, _, _⟩) rfl rfl (BZ.out _) ?_))) | ((with_reducible refine Se.isL (o := ⟨some 43, _, _, _, _, _⟩) ?_); (refine Se.toL rfl (Se.ld (o := ⟨some 43, _, _, _, _, _⟩) hs rfl rfl (Cell.blk 0 rfl X4.out) (by kernel_rfl) ?_))) | ((with_reducible refine Se.isL (o := ⟨some 44, _, _, _, _, _⟩) ?_); (refine Se.toL rfl (Se.ldw (o := ⟨some 44, _, _, _, _, _⟩) hs rfl rfl ((Reads.blk 1 rfl)) ((by rw [PL.out]; kernel_rfl)) (by kernel_rfl) ?_))) | ((first | with_reducible refine Se.ab hs ?_ | with_reducible refine Se.abc hs ?_); clear hs; (first | (generalize w.heap.size = g1; intro w hs))) | (go_at_call 51; refine Calls.mono (CO.out [_] _ hs) ?_; clear hs; rintro e w ⟨rfl, hs⟩) | (go_at_call 74; refine Calls.mono (CS.out [_, _] _ hs) ?_; clear hs; rintro e w ⟨rfl, hs⟩) | (go_at_call 73; refine Calls.mono (CE.out [_, _] _ hs) ?_; clear hs; rintro e w ⟨rfl, hs⟩) | (go_at_call 75; refine Calls.mono (CN.out [_, _] _ hs) ?_; clear hs; rintro e w ⟨rfl, hs⟩))
       go_ret
       exact ⟨rfl, hs.drop.drop⟩
      ·go_enter Try.func64, Try.ntmps64
       go_wp2_with (first | ((with_reducible refine Se.isL (o := ⟨some 7, _, _, _, _, _⟩) ?_); (refine Se.toL rfl (Se.ld (o := ⟨some 7, _, _, _, _, _⟩) hs rfl rfl (Cell.blk 0 rfl P0.out) (by kernel_rfl) ?_))) | ((with_reducible refine Se.isL (o := ⟨some 3, _, _, _, _, _⟩) ?_); (refine Se.toL rfl (Se.al (o := ⟨some 3, _, _, _, _, _⟩) hs rfl (ZS.out) ?_); clear hs; rintro w g3 - hs)) | ((with_reducible refine Se.isL (o := ⟨none, Op.store 99 _ _, _, _, _, _⟩) ?_); (refine Se.toL rfl (Se.sow 0 hs rfl rfl rfl rfl (XO.out) ((by rw [XL.out]; kernel_rfl)) ((by rw [XL.out, ZSL.out])) ?_); clear hs; intro w hs; try simp only [List.cons_append, List.nil_append, List.set_cons_zero] at hs)) | ((with_reducible refine Se.isL (o := ⟨some 15, _, _, _, _, _⟩) ?_); (refine Se.toL rfl (Se.ld (o := ⟨some 15, _, _, _, _, _⟩) hs rfl rfl (Cell.blk 1 rfl P3.out) (by kernel_rfl) ?_))) | ((with_reducible refine Se.isL (o := ⟨some 18, _, _, _, _, _⟩) ?_); (refine Se.toL rfl (Se.ld (o := ⟨some 18, _, _, _, _, _⟩) hs rfl rfl (Cell.blk 0 rfl X1.out) (by kernel_rfl) ?_))) | ((with_reducible refine Se.isL (o := ⟨some 23, _, _, _, _, _⟩) ?_); (refine Se.toL rfl (Se.ld (o := ⟨some 23, _, _, _, _, _⟩) hs rfl rfl (Cell.blk 1 rfl P13.out) (by kernel_rfl) ?_))) | ((with_reducible refine Se.isL (o := ⟨some 26, _, _, _, _, _⟩) ?_); (refine Se.toL rfl (Se.ld (o := ⟨some 26, _, _, _, _, _⟩) hs rfl rfl (Cell.blk 0 rfl X2.out) (by kernel_rfl) ?_))) | ((with_reducible refine Se.isL (o := ⟨some 31, _, _, _, _, _⟩) ?_); (refine Se.toL rfl (Se.ld (o := ⟨some 31, _, _, _, _, _⟩) hs rfl rfl (Cell.blk 1 rfl P13.out) (by kernel_rfl) ?_))) | ((with_reducible refine Se.isL (o := ⟨some 34, _, _, _, _, _⟩) ?_); (refine Se.toL rfl (Se.ld (o := ⟨some 34, _, _, _, _, _⟩) hs rfl rfl (Cell.blk 0 rfl X3.out) (by kernel_rfl) ?_))) | ((with_reducible refine Se.isL (o := ⟨some 37, _, _, _, _, _⟩) ?_); (refine Se.toL rfl (Se.ldw (o := ⟨some 37, _, _, _, _, _⟩) hs rfl rfl ((Reads.blk 1 rfl)) ((by rw [PL.out]; kernel_rfl)) (by kernel_rfl) ?_))) | ((with_reducible refine Se.isL (o := ⟨some 39, _, _, _, _, _⟩) ?_); (refine Se.toL rfl (Se.bd (o := ⟨some 39, _, _, _, _, _⟩) rfl rfl (BZ.out _) ?_))) | ((with_reducible refine Se.isL (o := ⟨some 43, _, _, _, _, _⟩) ?_); (refine Se.toL rfl (Se.ld (o := ⟨some 43, _, _, _, _, _⟩) hs rfl rfl (Cell.blk 0 rfl X4.out) (by kernel_rfl) ?_))) | ((with_reducible refine Se.isL (o := ⟨some 44, _, _, _, _, _⟩) ?_); (refine Se.toL rfl (Se.ldw (o := ⟨some 44, _, _, _, _, _⟩) hs rfl rfl ((Reads.blk 1 rfl)) ((by rw [PL.out]; kernel_rfl)) (by kernel_rfl) ?_))) | ((first | with_reducible refine Se.ab hs ?_ | with_reducible refine Se.abc hs ?_); clear hs; (first | (generalize w.heap.size = g1; intro w hs))) | (go_at_call 51; refine Calls.mono (CO.out [_] _ hs) ?_; clear hs; rintro e w ⟨rfl, hs⟩) | (go_at_call 74; refine Calls.mono (CS.out [_, _] _ hs) ?_; clear hs; rintro e w ⟨rfl, hs⟩) | (go_at_call 73; refine Calls.mono (CE.out [_, _] _ hs) ?_; clear hs; rintro e w ⟨rfl, hs⟩) | (go_at_call 78; refine Calls.mono (CN.out [_, _] _ hs) ?_; clear hs; rintro e w ⟨rfl, hs⟩))
       go_ret
       exact ⟨rfl, hs.drop.drop⟩
      ·go_enter Try.func64, Try.ntmps64
       go_wp2_with (first | ((with_reducible refine Se.isL (o := ⟨some 7, _, _, _, _, _⟩) ?_); (refine Se.toL rfl (Se.ld (o := ⟨some 7, _, _, _, _, _⟩) hs rfl rfl (Cell.blk 0 rfl P0.out) (by kernel_rfl) ?_))) | ((with_reducible refine Se.isL (o := ⟨some 3, _, _, _, _, _⟩) ?_); (refine Se.toL rfl (Se.al (o := ⟨some 3, _, _, _, _, _⟩) hs rfl (ZS.out) ?_); clear hs; rintro w g3 - hs)) | ((with_reducible refine Se.isL (o := ⟨none, Op.store 99 _ _, _, _, _, _⟩) ?_); (refine Se.toL rfl (Se.sow 0 hs rfl rfl rfl rfl (XO.out) ((by rw [XL.out]; kernel_rfl)) ((by rw [XL.out, ZSL.out])) ?_); clear hs; intro w hs; try simp only [List.cons_append, List.nil_append, List.set_cons_zero] at hs)) | ((with_reducible refine Se.isL (o := ⟨some 15, _, _, _, _, _⟩) ?_); (refine Se.toL rfl (Se.ld (o := ⟨some 15, _, _, _, _, _⟩) hs rfl rfl (Cell.blk 1 rfl P3.out) (by kernel_rfl) ?_))) | ((with_reducible refine Se.isL (o := ⟨some 18, _, _, _, _, _⟩) ?_); (refine Se.toL rfl (Se.ld (o := ⟨some 18, _, _, _, _, _⟩) hs rfl rfl (Cell.blk 0 rfl X1.out) (by kernel_rfl) ?_))) | ((with_reducible refine Se.isL (o := ⟨some 23, _, _, _, _, _⟩) ?_); (refine Se.toL rfl (Se.ld (o := ⟨some 23, _, _, _, _, _⟩) hs rfl rfl (Cell.blk 1 rfl P13.out) (by kernel_rfl) ?_))) | ((with_reducible refine Se.isL (o := ⟨some 26, _, _, _, _, _⟩) ?_); (refine Se.toL rfl (Se.ld (o := ⟨some 26, _, _, _, _, _⟩) hs rfl rfl (Cell.blk 0 rfl X2.out) (by kernel_rfl) ?_))) | ((with_reducible refine Se.isL (o := ⟨some 31, _, _, _, _, _⟩) ?_); (refine Se.toL rfl (Se.ld (o := ⟨some 31, _, _, _, _, _⟩) hs rfl rfl (Cell.blk 1 rfl P13.out) (by kernel_rfl) ?_))) | ((with_reducible refine Se.isL (o := ⟨some 34, _, _, _, _, _⟩) ?_); (refine Se.toL rfl (Se.ld (o := ⟨some 34, _, _, _, _, _⟩) hs rfl rfl (Cell.blk 0 rfl X3.out) (by kernel_rfl) ?_))) | ((with_reducible refine Se.isL (o := ⟨some 37, _, _, _, _, _⟩) ?_); (refine Se.toL rfl (Se.ldw (o := ⟨some 37, _, _, _, _, _⟩) hs rfl rfl ((Reads.blk 1 rfl)) ((by rw [PL.out]; kernel_rfl)) (by kernel_rfl) ?_))) | ((with_reducible refine Se.isL (o := ⟨some 39, _, _, _, _, _⟩) ?_); (refine Se.toL rfl (Se.bd (o := ⟨some 39, _, _, _, _, _⟩) rfl rfl (BZ.out _) ?_))) | ((with_reducible refine Se.isL (o := ⟨some 43, _, _, _, _, _⟩) ?_); (refine Se.toL rfl (Se.ld (o := ⟨some 43, _, _, _, _, _⟩) hs rfl rfl (Cell.blk 0 rfl X4.out) (by kernel_rfl) ?_))) | ((with_reducible refine Se.isL (o := ⟨some 44, _, _, _, _, _⟩) ?_); (refine Se.toL rfl (Se.ldw (o := ⟨some 44, _, _, _, _, _⟩) hs rfl rfl ((Reads.blk 1 rfl)) ((by rw [PL.out]; kernel_rfl)) (by kernel_rfl) ?_))) | ((first | with_reducible refine Se.ab hs ?_ | with_reducible refine Se.abc hs ?_); clear hs; (first | (generalize w.heap.size = g1; intro w hs))) | (go_at_call 51; refine Calls.mono (CO.out [_] _ hs) ?_; clear hs; rintro e w ⟨rfl, hs⟩) | (go_at_call 74; refine Calls.mono (CS.out [_, _] _ hs) ?_; clear hs; rintro e w ⟨rfl, hs⟩) | (go_at_call 73; refine Calls.mono (CE.out [_, _] _ hs) ?_; clear hs; rintro e w ⟨rfl, hs⟩) | (go_at_call 86; refine Calls.mono (CN.out [_, _] _ hs) ?_; clear hs; rintro e w ⟨rfl, hs⟩))
       go_ret
       exact ⟨rfl, hs.drop.drop⟩
      ·go_enter Try.func64, Try.ntmps64
       go_wp2_with (first | ((with_reducible refine Se.isL (o := ⟨some 7, _, _, _, _, _⟩) ?_); (refine Se.toL rfl (Se.ld (o := ⟨some 7, _, _, _, _, _⟩) hs rfl rfl (Cell.blk 0 rfl P0.out) (by kernel_rfl) ?_))) | ((with_reducible refine Se.isL (o := ⟨some 3, _, _, _, _, _⟩) ?_); (refine Se.toL rfl (Se.al (o := ⟨some 3, _, _, _, _, _⟩) hs rfl (ZS.out) ?_); clear hs; rintro w g3 - hs)) | ((with_reducible refine Se.isL (o := ⟨none, Op.store 99 _ _, _, _, _, _⟩) ?_); (refine Se.toL rfl (Se.sow 0 hs rfl rfl rfl rfl (XO.out) ((by rw [XL.out]; kernel_rfl)) ((by rw [XL.out, ZSL.out])) ?_); clear hs; intro w hs; try simp only [List.cons_append, List.nil_append, List.set_cons_zero] at hs)) | ((with_reducible refine Se.isL (o := ⟨some 15, _, _, _, _, _⟩) ?_); (refine Se.toL rfl (Se.ld (o := ⟨some 15, _, _, _, _, _⟩) hs rfl rfl (Cell.blk 1 rfl P3.out) (by kernel_rfl) ?_))) | ((with_reducible refine Se.isL (o := ⟨some 18, _, _, _, _, _⟩) ?_); (refine Se.toL rfl (Se.ld (o := ⟨some 18, _, _, _, _, _⟩) hs rfl rfl (Cell.blk 0 rfl X1.out) (by kernel_rfl) ?_))) | ((with_reducible refine Se.isL (o := ⟨some 23, _, _, _, _, _⟩) ?_); (refine Se.toL rfl (Se.ld (o := ⟨some 23, _, _, _, _, _⟩) hs rfl rfl (Cell.blk 1 rfl P13.out) (by kernel_rfl) ?_))) | ((with_reducible refine Se.isL (o := ⟨some 26, _, _, _, _, _⟩) ?_); (refine Se.toL rfl (Se.ld (o := ⟨some 26, _, _, _, _, _⟩) hs rfl rfl (Cell.blk 0 rfl X2.out) (by kernel_rfl) ?_))) | ((with_reducible refine Se.isL (o := ⟨some 31, _, _, _, _, _⟩) ?_); (refine Se.toL rfl (Se.ld (o := ⟨some 31, _, _, _, _, _⟩) hs rfl rfl (Cell.blk 1 rfl P13.out) (by kernel_rfl) ?_))) | ((with_reducible refine Se.isL (o := ⟨some 34, _, _, _, _, _⟩) ?_); (refine Se.toL rfl (Se.ld (o := ⟨some 34, _, _, _, _, _⟩) hs rfl rfl (Cell.blk 0 rfl X3.out) (by kernel_rfl) ?_))) | ((with_reducible refine Se.isL (o := ⟨some 37, _, _, _, _, _⟩) ?_); (refine Se.toL rfl (Se.ldw (o := ⟨some 37, _, _, _, _, _⟩) hs rfl rfl ((Reads.blk 1 rfl)) ((by rw [PL.out]; kernel_rfl)) (by kernel_rfl) ?_))) | ((with_reducible refine Se.isL (o := ⟨some 39, _, _, _, _, _⟩) ?_); (refine Se.toL rfl (Se.bd (o := ⟨some 39, _, _, _, _, _⟩) rfl rfl (BZ.out _) ?_))) | ((with_reducible refine Se.isL (o := ⟨some 43, _, _, _, _, _⟩) ?_); (refine Se.toL rfl (Se.ld (o := ⟨some 43, _, _, _, _, _⟩) hs rfl rfl (Cell.blk 0 rfl X4.out) (by kernel_rfl) ?_))) | ((with_reducible refine Se.isL (o := ⟨some 44, _, _, _, _, _⟩) ?_); (refine Se.toL rfl (Se.ldw (o := ⟨some 44, _, _, _, _, _⟩) hs rfl rfl ((Reads.blk 1 rfl)) ((by rw [PL.out]; kernel_rfl)) (by kernel_rfl) ?_))) | ((first | with_reducible refine Se.ab hs ?_ | with_reducible refine Se.abc hs ?_); clear hs; (first | (generalize w.heap.size = g1; intro w hs))) | (go_at_call 51; refine Calls.mono (CO.out [_] _ hs) ?_; clear hs; rintro e w ⟨rfl, hs⟩) | (go_at_call 74; refine Calls.mono (CS.out [_, _] _ hs) ?_; clear hs; rintro e w ⟨rfl, hs⟩) | (go_at_call 73; refine Calls.mono (CE.out [_, _] _ hs) ?_; clear hs; rintro e w ⟨rfl, hs⟩) | (go_at_call 79; refine Calls.mono (CN.out [_, _] _ hs) ?_; clear hs; rintro e w ⟨rfl, hs⟩))
       go_ret
       exact ⟨rfl, hs.drop.drop⟩
end Pd
end Go.Proofs.Ytdngfcmakjlamaa


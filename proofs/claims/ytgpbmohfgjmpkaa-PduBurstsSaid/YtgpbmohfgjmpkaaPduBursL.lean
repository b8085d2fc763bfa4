/- Layer 35: the law PduBursts, the walk. No condition. -/
import Derived.Test.YtgpbmohfgjmpkaaPduBackL
import Derived.Test.YtgpbmohfgjmpkaaPduBst
set_option linter.unusedSimpArgs false
set_option linter.unusedVariables false
namespace Go.Proofs.Ytgpbmohfgjmpkaa
open Go Go.RowKit
namespace Pd
open Se (St At Reads Cell)
open Li (v8 v8_one Rd Blk Fr)
open Bv (n8 n16 n32 n64)
variable {w0 w : World} {X : List Nat} {L : List At}
attribute [local irreducible] Calls
set_option maxRecDepth 100000 in
set_option maxHeartbeats 4000000 in
theorem open_u32 {W : World} {base : Nat} {v : Value} (hv : Value.okWide Try.prog W .any base 25 v) : ∃ x : BitVec 32, v = .int .u32 (n32 x) := by
  have hu := Try.underlying25
  obtain ⟨z, rfl⟩ := Go.WideShapes.okWide_int hu hv
  have h : IntKind.u32 = IntKind.u32 ∧ IntKind.u32.has z := by
    unfold Value.okWide at hv
    rw [hu] at hv
    exact hv
  replace h := h.2
  refine ⟨BitVec.ofInt 32 z, ?_⟩
  simp only [IntKind.has, IntKind.min, IntKind.max, IntKind.signed, IntKind.bits] at h
  rw [Bv.n32_of]
  congr 1
  simp at h; omega
/-- The first bit that is turned. -/
theorem rem_at (bi : Int) (nn : Nat) (h0 : 0 < nn) (h1 : nn < 4294967296) : ∃ at0 : Nat, at0 < nn ∧ ((IntKind.u64.wrap bi).tmod (nn : Int)) = (at0 : Int) := by
  have h : 0 ≤ IntKind.u64.wrap bi := by simp [IntKind.wrap, IntKind.bits, IntKind.signed]; omega
  refine ⟨((IntKind.u64.wrap bi).tmod (nn : Int)).toNat, ?_, ?_⟩
  · have h2 := Int.tmod_lt_of_pos (IntKind.u64.wrap bi) (show (0 : Int) < (nn : Int) by omega)
    have h3 : 0 ≤ (IntKind.u64.wrap bi).tmod (nn : Int) := Int.tmod_nonneg _ h
    omega
  · have h3 : 0 ≤ (IntKind.u64.wrap bi).tmod (nn : Int) := Int.tmod_nonneg _ h
    omega
theorem u64_nat {k : Nat} (h : k < 4294967296) : IntKind.u64.wrap (k : Int) = (k : Int) := by
  simp [IntKind.wrap, IntKind.bits, IntKind.signed]; omega
attribute [local go_sem ↓] Bv.xor_n8 Bv.shl_n8 Bv.shr_n32 Bv.and_n32
attribute [local go_sem] Bv.of_n8 Bv.of_n32
set_option maxRecDepth 100000 in
set_option maxHeartbeats 4000000 in
theorem bursts_st (hs : St w0 X L w) (p : PDU) (al bi : Int) (pat : BitVec 32) {EA DA : Option Addr} {en ec dn dc : Nat} (he : en = p.en.length) (rE : Reads L EA (p.en.map v8)) (hd : dn = p.da.length) (rD : Reads L DA (p.da.map v8)) :
    Calls Try.prog 8 #[.agg (pc p.h EA en ec DA dn dc).toArray, .int .i64 al, .int .i64 bi, .int .u32 (n32 pat)] w fun e' w' => e' = .returned (.bool true) ∧ St w0 X L w' := by
  obtain ⟨f, hf⟩ : ∃ f : Fm, f = ⟨true, true, al⟩ := ⟨_, rfl⟩
  obtain ⟨P, hP⟩ : ∃ P, P = pc p.h EA en ec DA dn dc := ⟨_, rfl⟩
  obtain ⟨F, hF⟩ : ∃ F, F = fl f := ⟨_, rfl⟩
  obtain ⟨b1, hb1⟩ : ∃ b, (decide (3000 < dn) || decide (100 < en)) = b := ⟨_, rfl⟩
  obtain ⟨k, hk⟩ : ∃ k, k = p.h.k.toNat := ⟨_, rfl⟩
  obtain ⟨pn, hpn⟩ : ∃ z, z = n32 pat := ⟨_, rfl⟩
  have PL := Lib.hid (show P.length = 14 by rw [hP]; rfl)
  have P0 := Lib.hid (show P[0]? = some (.int .u8 (k : Int)) by rw [hP, hk]; rfl)
  have P13 := Lib.hid (show P[13]? = some (.slice DA dn dc) by rw [hP]; rfl)
  have FL := Lib.hid (show F.length = 3 by rw [hF]; rfl)
  have FO := Lib.hid (show ∀ v ∈ F, v.oneCell' = true by rw [hF]; simp [fl, Value.oneCell'])
  have BF : Hid (∀ w : World, (Instr.build 29 #[(0, .bool true), (1, .bool true), (2, .int .i64 al)]).run Try.prog w = .ok (.agg F.toArray) w) := Lib.hid (by rw [hF, hf]; intro w; kernel_rfl)
  have HZ := Lib.hid zPdu3
  have HZF := Lib.hid (show (Try.prog.info? 29).bind (fun i => i.zero.map (·.cells.toList)) = some [.bool false, .bool false, .int .i64 0] by kernel_rfl)
  have CK : Hid (∀ (L' : List At) (w : World), St w0 X (L' ++ L) w → Calls Try.prog 11 #[] w fun e w' => e = .returned (.bool true) ∧ St w0 X (L' ++ L) w') := Lib.hid (fun L' w hs => known_st hs)
  have CL : Hid (∀ (L' : List At) (w : World), St w0 X (L' ++ L) w → Calls Try.prog 10 #[.agg P.toArray] w fun e w' => e = .returned (.bool b1) ∧ St w0 X (L' ++ L) w') := Lib.hid (fun L' w hs => by rw [hP]; exact long_st hs p.h hb1)
  have hkl : k < 256 := by rw [hk]; exact p.h.k.isLt
  -- what ends at once
  have early : (b1 = true ∨ (pn == 0) = true ∨ decide ((k : Int) < 4) = true) ∨ (b1 = false ∧ (pn == 0) = false ∧ decide ((k : Int) < 4) = false) := by
    cases b1 <;> cases (pn == 0) <;> cases (decide ((k : Int) < 4)) <;> simp
  rcases early with early | ⟨e1, e2, e3⟩
  · rw [← hP, ← hpn]
    clear hP hF hf hb1 he rE hd rD hpn hk hkl
    rcases early with e1 | e2 | e3
    · subst e1
      go_enter Try.func8, Try.ntmps8
      go_wp2_with (first | ((with_reducible refine Se.isL (o := ⟨some 23, _, _, _, _, _⟩) ?_); (refine Se.toL rfl (Se.bd (o := ⟨some 23, _, _, _, _, _⟩) rfl rfl (BF.out _) ?_))) | ((with_reducible refine Se.isL (o := ⟨some 9, _, _, _, _, _⟩) ?_); (refine Se.toL rfl (Se.al (o := ⟨some 9, _, _, _, _, _⟩) hs rfl (HZF.out) ?_); clear hs; rintro w g9 - hs)) | ((with_reducible refine Se.isL (o := ⟨none, _, _, _, _, _⟩) ?_); (refine Se.toL rfl (Se.sow 0 hs rfl rfl rfl rfl (FO.out) ((by rw [FL.out]; kernel_rfl)) ((by rw [FL.out]; rfl)) ?_); clear hs; intro w hs; try simp only [List.cons_append, List.nil_append, List.set_cons_zero] at hs)) | ((with_reducible refine Se.isL (o := ⟨some 24, _, _, _, _, _⟩) ?_); (refine Se.toL rfl (Se.ldw (o := ⟨some 24, _, _, _, _, _⟩) hs rfl rfl ((Reads.blk 1 rfl)) ((by rw [PL.out]; kernel_rfl)) (by kernel_rfl) ?_))) | ((first | with_reducible refine Se.ab hs ?_ | with_reducible refine Se.abc hs ?_); clear hs; (first | (generalize w.heap.size = g4; intro w hs))) | (go_at_call 10; refine Calls.mono (CL.out [_, _] _ hs) ?_; clear hs; rintro e w ⟨rfl, hs⟩) | (go_at_call 11; refine Calls.mono (CK.out [_, _] _ hs) ?_; clear hs; rintro e w ⟨rfl, hs⟩))
      go_ret
      exact ⟨rfl, hs.drop.drop⟩
    · cases b1 with
      | true =>
        go_enter Try.func8, Try.ntmps8
        go_wp2_with (first | ((with_reducible refine Se.isL (o := ⟨some 23, _, _, _, _, _⟩) ?_); (refine Se.toL rfl (Se.bd (o := ⟨some 23, _, _, _, _, _⟩) rfl rfl (BF.out _) ?_))) | ((with_reducible refine Se.isL (o := ⟨some 9, _, _, _, _, _⟩) ?_); (refine Se.toL rfl (Se.al (o := ⟨some 9, _, _, _, _, _⟩) hs rfl (HZF.out) ?_); clear hs; rintro w g9 - hs)) | ((with_reducible refine Se.isL (o := ⟨none, _, _, _, _, _⟩) ?_); (refine Se.toL rfl (Se.sow 0 hs rfl rfl rfl rfl (FO.out) ((by rw [FL.out]; kernel_rfl)) ((by rw [FL.out]; rfl)) ?_); clear hs; intro w hs; try simp only [List.cons_append, List.nil_append, List.set_cons_zero] at hs)) | ((with_reducible refine Se.isL (o := ⟨some 24, _, _, _, _, _⟩) ?_); (refine Se.toL rfl (Se.ldw (o := ⟨some 24, _, _, _, _, _⟩) hs rfl rfl ((Reads.blk 1 rfl)) ((by rw [PL.out]; kernel_rfl)) (by kernel_rfl) ?_))) | ((first | with_reducible refine Se.ab hs ?_ | with_reducible refine Se.abc hs ?_); clear hs; (first | (generalize w.heap.size = g4; intro w hs))) | (go_at_call 10; refine Calls.mono (CL.out [_, _] _ hs) ?_; clear hs; rintro e w ⟨rfl, hs⟩) | (go_at_call 11; refine Calls.mono (CK.out [_, _] _ hs) ?_; clear hs; rintro e w ⟨rfl, hs⟩))
        go_ret
        exact ⟨rfl, hs.drop.drop⟩
      | false =>
        go_enter Try.func8, Try.ntmps8
        go_wp2_with (first | ((with_reducible refine Se.isL (o := ⟨some 23, _, _, _, _, _⟩) ?_); (refine Se.toL rfl (Se.bd (o := ⟨some 23, _, _, _, _, _⟩) rfl rfl (BF.out _) ?_))) | ((with_reducible refine Se.isL (o := ⟨some 9, _, _, _, _, _⟩) ?_); (refine Se.toL rfl (Se.al (o := ⟨some 9, _, _, _, _, _⟩) hs rfl (HZF.out) ?_); clear hs; rintro w g9 - hs)) | ((with_reducible refine Se.isL (o := ⟨none, _, _, _, _, _⟩) ?_); (refine Se.toL rfl (Se.sow 0 hs rfl rfl rfl rfl (FO.out) ((by rw [FL.out]; kernel_rfl)) ((by rw [FL.out]; rfl)) ?_); clear hs; intro w hs; try simp only [List.cons_append, List.nil_append, List.set_cons_zero] at hs)) | ((with_reducible refine Se.isL (o := ⟨some 24, _, _, _, _, _⟩) ?_); (refine Se.toL rfl (Se.ldw (o := ⟨some 24, _, _, _, _, _⟩) hs rfl rfl ((Reads.blk 1 rfl)) ((by rw [PL.out]; kernel_rfl)) (by kernel_rfl) ?_))) | ((first | with_reducible refine Se.ab hs ?_ | with_reducible refine Se.abc hs ?_); clear hs; (first | (generalize w.heap.size = g4; intro w hs))) | (go_at_call 10; refine Calls.mono (CL.out [_, _] _ hs) ?_; clear hs; rintro e w ⟨rfl, hs⟩) | (go_at_call 11; refine Calls.mono (CK.out [_, _] _ hs) ?_; clear hs; rintro e w ⟨rfl, hs⟩))
        go_ret
        exact ⟨rfl, hs.drop.drop⟩
    · cases b1 with
      | true =>
        go_enter Try.func8, Try.ntmps8
        go_wp2_with (first | ((with_reducible refine Se.isL (o := ⟨some 23, _, _, _, _, _⟩) ?_); (refine Se.toL rfl (Se.bd (o := ⟨some 23, _, _, _, _, _⟩) rfl rfl (BF.out _) ?_))) | ((with_reducible refine Se.isL (o := ⟨some 9, _, _, _, _, _⟩) ?_); (refine Se.toL rfl (Se.al (o := ⟨some 9, _, _, _, _, _⟩) hs rfl (HZF.out) ?_); clear hs; rintro w g9 - hs)) | ((with_reducible refine Se.isL (o := ⟨none, _, _, _, _, _⟩) ?_); (refine Se.toL rfl (Se.sow 0 hs rfl rfl rfl rfl (FO.out) ((by rw [FL.out]; kernel_rfl)) ((by rw [FL.out]; rfl)) ?_); clear hs; intro w hs; try simp only [List.cons_append, List.nil_append, List.set_cons_zero] at hs)) | ((with_reducible refine Se.isL (o := ⟨some 24, _, _, _, _, _⟩) ?_); (refine Se.toL rfl (Se.ldw (o := ⟨some 24, _, _, _, _, _⟩) hs rfl rfl ((Reads.blk 1 rfl)) ((by rw [PL.out]; kernel_rfl)) (by kernel_rfl) ?_))) | ((first | with_reducible refine Se.ab hs ?_ | with_reducible refine Se.abc hs ?_); clear hs; (first | (generalize w.heap.size = g4; intro w hs))) | (go_at_call 10; refine Calls.mono (CL.out [_, _] _ hs) ?_; clear hs; rintro e w ⟨rfl, hs⟩) | (go_at_call 11; refine Calls.mono (CK.out [_, _] _ hs) ?_; clear hs; rintro e w ⟨rfl, hs⟩))
        go_ret
        exact ⟨rfl, hs.drop.drop⟩
      | false =>
        cases e2 : (pn == 0) with
        | true =>
          go_enter Try.func8, Try.ntmps8
          go_wp2_with (first | ((with_reducible refine Se.isL (o := ⟨some 23, _, _, _, _, _⟩) ?_); (refine Se.toL rfl (Se.bd (o := ⟨some 23, _, _, _, _, _⟩) rfl rfl (BF.out _) ?_))) | ((with_reducible refine Se.isL (o := ⟨some 9, _, _, _, _, _⟩) ?_); (refine Se.toL rfl (Se.al (o := ⟨some 9, _, _, _, _, _⟩) hs rfl (HZF.out) ?_); clear hs; rintro w g9 - hs)) | ((with_reducible refine Se.isL (o := ⟨none, _, _, _, _, _⟩) ?_); (refine Se.toL rfl (Se.sow 0 hs rfl rfl rfl rfl (FO.out) ((by rw [FL.out]; kernel_rfl)) ((by rw [FL.out]; rfl)) ?_); clear hs; intro w hs; try simp only [List.cons_append, List.nil_append, List.set_cons_zero] at hs)) | ((with_reducible refine Se.isL (o := ⟨some 24, _, _, _, _, _⟩) ?_); (refine Se.toL rfl (Se.ldw (o := ⟨some 24, _, _, _, _, _⟩) hs rfl rfl ((Reads.blk 1 rfl)) ((by rw [PL.out]; kernel_rfl)) (by kernel_rfl) ?_))) | ((first | with_reducible refine Se.ab hs ?_ | with_reducible refine Se.abc hs ?_); clear hs; (first | (generalize w.heap.size = g4; intro w hs))) | (go_at_call 10; refine Calls.mono (CL.out [_, _] _ hs) ?_; clear hs; rintro e w ⟨rfl, hs⟩) | (go_at_call 11; refine Calls.mono (CK.out [_, _] _ hs) ?_; clear hs; rintro e w ⟨rfl, hs⟩))
          go_ret
          exact ⟨rfl, hs.drop.drop⟩
        | false =>
          go_enter Try.func8, Try.ntmps8
          go_wp2_with (first | ((with_reducible refine Se.isL (o := ⟨some 23, _, _, _, _, _⟩) ?_); (refine Se.toL rfl (Se.bd (o := ⟨some 23, _, _, _, _, _⟩) rfl rfl (BF.out _) ?_))) | ((with_reducible refine Se.isL (o := ⟨some 9, _, _, _, _, _⟩) ?_); (refine Se.toL rfl (Se.al (o := ⟨some 9, _, _, _, _, _⟩) hs rfl (HZF.out) ?_); clear hs; rintro w g9 - hs)) | ((with_reducible refine Se.isL (o := ⟨none, _, _, _, _, _⟩) ?_); (refine Se.toL rfl (Se.sow 0 hs rfl rfl rfl rfl (FO.out) ((by rw [FL.out]; kernel_rfl)) ((by rw [FL.out]; rfl)) ?_); clear hs; intro w hs; try simp only [List.cons_append, List.nil_append, List.set_cons_zero] at hs)) | ((with_reducible refine Se.isL (o := ⟨some 24, _, _, _, _, _⟩) ?_); (refine Se.toL rfl (Se.ldw (o := ⟨some 24, _, _, _, _, _⟩) hs rfl rfl ((Reads.blk 1 rfl)) ((by rw [PL.out]; kernel_rfl)) (by kernel_rfl) ?_))) | ((with_reducible refine Se.isL (o := ⟨some 32, _, _, _, _, _⟩) ?_); (refine Se.toL rfl (Se.ld (o := ⟨some 32, _, _, _, _, _⟩) hs rfl rfl (Cell.blk 1 rfl P0.out) (by kernel_rfl) ?_))) | ((first | with_reducible refine Se.ab hs ?_ | with_reducible refine Se.abc hs ?_); clear hs; (first | (generalize w.heap.size = g4; intro w hs))) | (go_at_call 10; refine Calls.mono (CL.out [_, _] _ hs) ?_; clear hs; rintro e w ⟨rfl, hs⟩) | (go_at_call 11; refine Calls.mono (CK.out [_, _] _ hs) ?_; clear hs; rintro e w ⟨rfl, hs⟩))
          go_ret
          exact ⟨rfl, hs.drop.drop⟩
  subst e1
  subst hpn
  have hk4 : 3 < k := by have := of_decide_eq_false e3; omega
  have hdn : dn ≤ 3000 ∧ en ≤ 100 := by
    simp only [Bool.or_eq_false_iff, decide_eq_false_iff_not] at hb1; omega
  obtain ⟨⟨xb, ee⟩, hE⟩ : ∃ x, encE p f = x := ⟨_, rfl⟩
  obtain ⟨m, hm⟩ : ∃ m, m = xb.length := ⟨_, rfl⟩
  obtain ⟨fr, hfr⟩ : ∃ z, z = fromB p f := ⟨_, rfl⟩
  have hee : (ee = 0 ∧ framed f = true ∧ valid p = true ∧ xb = enc p f) ∨ ee = 2 := by
    rcases encE_cases p f with ⟨a1, a2, a3⟩ | a3
    · rw [a3] at hE; cases hE; exact .inl ⟨rfl, a1, a2, rfl⟩
    · rw [a3] at hE; cases hE; exact .inr rfl
  have CE : Hid (∀ (L' : List At) (w : World), St w0 X (L' ++ L) w → Calls Try.prog 12 #[.agg P.toArray, .agg F.toArray] w fun e' w' => ∃ r B c, e' = .returned (.tuple #[.slice B m c, iv ee]) ∧ m ≤ c ∧ St w0 X (.own 1 r B m c (xb.map v8) :: (L' ++ L)) w') := Lib.hid (fun L' w hs => by rw [hP, hF, ← fv_eq]; exact encodeN_st hs p f (rE.app L') (rD.app L') he hd (by omega) (by omega) hE hm)
  have HEE : Hid (ee = 0 ∨ ee = 2) := Lib.hid (by rcases hee with ⟨a, _⟩ | a <;> simp [a])
  -- the bounds
  have hbd : ee = 0 → 28 ≤ m ∧ m ≤ 2000000 ∧ 8 ≤ fr ∧ fr + 4 ≤ m ∧ (0 < dn → fr = m - dn - 4) ∧ (dn = 0 → fr = 8) ∧ dn + 4 ≤ m := by
    intro h0
    rcases hee with ⟨_, a1, a2, a3⟩ | a1
    · have h1 := size_lt a1 a2
      have h2 := enc_len p f a1 a2
      have h3 := start_pos a1 (hdr_ne a2)
      have h4 := hdr_bd (hdr_ne a2)
      have h5 : hsum p.h.k.toNat f = 4 := by unfold hsum; rw [if_pos ⟨by omega, by rw [hf]⟩]
      have h6 : Pd.hs p f = 4 := h5
      have h7 : 0 < p.da.length → ds p f = 4 := fun h => by unfold ds dsum; rw [if_pos ⟨by omega, by rw [hf], by simp [h]⟩]
      have h8 : m = size p f := by rw [hm, a3, h2]
      have h9 : size p f = if 0 < p.da.length then start p.h.k.toNat f + p.da.length + ds p f else hdr p.h.k.toNat + Pd.hs p f := rfl
      have ha : fromB p f = if 0 < p.da.length then size p f - p.da.length - 4 else 8 := rfl
      by_cases hc : 0 < p.da.length
      · have := h7 hc
        rw [if_pos hc] at h9 ha
        omega
      · rw [if_neg hc] at h9 ha
        omega
    · omega
  have CD : Hid (ee = 0 → ∀ (M : List At) (w : World) (B : Option Addr) (cc : Nat) (es : List (BitVec 8)) (a : Nat), Hid (es.length = m) → m ≤ cc → Hid (∀ j, bitAt xb j ≠ bitAt es j → 8 * fr + a ≤ j ∧ j < 8 * fr + a + 32) → xb ≠ es → Reads M B (es.map v8) → St w0 X M w → Calls Try.prog 22 #[.slice B m cc, .agg F.toArray] w fun r' w' => ∃ (r1 : Option Nat) (QA : Option Addr) (en2 ec : Nat) (r2 : Option Nat) (QD : Option Addr) (dn2 dc : Nat) (PC : List Value) (e2 : Nat) (E2 D2 : List Value), r' = .returned (.tuple #[.agg PC.toArray, iv e2]) ∧ Hid (e2 ≠ 0) ∧ Hid (PC.length = 14) ∧ Hid (∀ v ∈ PC, v.oneCell' = true) ∧ St w0 X (.own 1 r1 QA en2 ec E2 :: .own 1 r2 QD dn2 dc D2 :: M) w') := Lib.hid (fun h0 M w B cc es a hes hcc hbits hne hr hs => by
    rcases hee with ⟨_, a1, a2, a3⟩ | a1
    · obtain ⟨⟨q, e2⟩, hq⟩ : ∃ x, dec es f = x := ⟨_, rfl⟩
      have hml := (hbd h0).2.1
      have h := decodeN_st hs es f hes.out.symm hr hcc (by omega) hq
      rw [fv_eq, ← hF] at h
      refine h.mono ?_
      rintro r' w' ⟨r1, QA, ec, r2, QD, dc, PC, g1, g2, g3⟩
      refine ⟨r1, QA, _, ec, r2, QD, _, dc, PC, e2, _, _, g1, Lib.hid fun h9 => ?_, Lib.hid (by rw [g2.out]; rfl), Lib.hid (by rw [g2.out]; exact pc_one _ _ _ _ _ _ _), g3⟩
      subst h9
      refine hne ?_
      rw [a3]
      exact bursts a1 a2 (by omega) (by rw [hf]) (by rw [hf]) (by rw [hes.out, hm, a3]) (a := 8 * fr + a) (by rw [hfr]; omega) (by rw [← a3]; exact hbits.out) hq
    · omega)
  have HM := Lib.hid hm
  have HBD := Lib.hid hbd
  rw [← hP]
  clear hP hF hf hb1 he rE hd rD hE hm hfr hee hbd hkl hk
  go_enter Try.func8, Try.ntmps8
  go_upto_region 5 with (first | ((with_reducible refine Se.isL (o := ⟨some 23, _, _, _, _, _⟩) ?_); (refine Se.toL rfl (Se.bd (o := ⟨some 23, _, _, _, _, _⟩) rfl rfl (BF.out _) ?_))) | ((with_reducible refine Se.isL (o := ⟨some 9, _, _, _, _, _⟩) ?_); (refine Se.toL rfl (Se.al (o := ⟨some 9, _, _, _, _, _⟩) hs rfl (HZF.out) ?_); clear hs; rintro w g9 - hs)) | ((with_reducible refine Se.isL (o := ⟨none, _, _, _, _, _⟩) ?_); (refine Se.toL rfl (Se.sow 0 hs rfl rfl rfl rfl (FO.out) ((by rw [FL.out]; kernel_rfl)) ((by rw [FL.out]; rfl)) ?_); clear hs; intro w hs; try simp only [List.cons_append, List.nil_append, List.set_cons_zero] at hs)) | ((with_reducible refine Se.isL (o := ⟨some 24, _, _, _, _, _⟩) ?_); (refine Se.toL rfl (Se.ldw (o := ⟨some 24, _, _, _, _, _⟩) hs rfl rfl ((Reads.blk 1 rfl)) ((by rw [PL.out]; kernel_rfl)) (by kernel_rfl) ?_))) | ((with_reducible refine Se.isL (o := ⟨some 32, _, _, _, _, _⟩) ?_); (refine Se.toL rfl (Se.ld (o := ⟨some 32, _, _, _, _, _⟩) hs rfl rfl (Cell.blk 1 rfl P0.out) (by kernel_rfl) ?_))) | ((with_reducible refine Se.isL (o := ⟨some 37, _, _, _, _, _⟩) ?_); (refine Se.toL rfl (Se.ldw (o := ⟨some 37, _, _, _, _, _⟩) hs rfl rfl ((Reads.blk 1 rfl)) ((by rw [PL.out]; kernel_rfl)) (by kernel_rfl) ?_))) | ((with_reducible refine Se.isL (o := ⟨some 38, _, _, _, _, _⟩) ?_); (refine Se.toL rfl (Se.ldw (o := ⟨some 38, _, _, _, _, _⟩) hs rfl rfl ((Reads.blk 0 rfl)) ((by rw [FL.out]; kernel_rfl)) (by kernel_rfl) ?_))) | ((first | with_reducible refine Se.ab hs ?_ | with_reducible refine Se.abc hs ?_); clear hs; (first | (generalize w.heap.size = g4; intro w hs))) | (go_at_call 10; refine Calls.mono (CL.out [_, _] _ hs) ?_; clear hs; rintro e w ⟨rfl, hs⟩) | (go_at_call 12; refine Calls.mono (CE.out [_, _] _ hs) ?_; clear hs; rintro e w ⟨rb, BB, cb, rfl, hcb, hs⟩))
  rcases HEE.out with rfl | rfl
  rotate_left
  · go_wp2_with (first | (go_at_call 11; refine Calls.mono (CK.out [_, _, _] _ hs) ?_; clear hs; rintro e w ⟨rfl, hs⟩))
    go_ret
    exact ⟨rfl, hs.drop.drop.drop⟩
  replace CD := Lib.hid (CD.out rfl)
  obtain ⟨q1, q2, q3, q4, q5, q6, q7⟩ := HBD.out rfl
  clear HBD HEE CL
  have m28 : decide ((m : Int) < 28) = false := by simp; omega
  go_upto_if 55 with (first | ((with_reducible refine Se.isL (o := ⟨some 53, _, _, _, _, _⟩) ?_); (refine Se.toL rfl (Se.ld (o := ⟨some 53, _, _, _, _, _⟩) hs rfl rfl (Cell.blk 2 rfl P13.out) (by kernel_rfl) ?_))))
  go_cut [12] (fun s12 wx => s12 = iv fr ∧ St w0 X ([.own 1 rb BB m cb (xb.map v8), .blk g9 29 F, .blk g4 27 P] ++ L) wx)
  case first =>
    by_cases h0 : 0 < dn
    · have h0' : decide ((0 : Int) < (dn : Int)) = true := by simp; omega
      have h0'' : (0 : Int) < (dn : Int) := by omega
      have e8 := q5 h0
      have w1 : IntKind.i64.wrap ((m : Int) - (dn : Int)) = ((m - dn : Nat) : Int) := by rw [IntWalk.i64_in _ (by omega)]; omega
      have w2 : IntKind.i64.wrap (((m - dn : Nat) : Int) - 4) = (fr : Int) := by rw [IntWalk.i64_in _ (by omega)]; omega
      clear q1 q2 q3 q4 q5 q6 q7 h0 e8
      go_wp2_with (first | ((with_reducible refine Se.isL (o := ⟨some 59, _, _, _, _, _⟩) ?_); (refine Se.toL rfl (Se.ld (o := ⟨some 59, _, _, _, _, _⟩) hs rfl rfl (Cell.blk 2 rfl P13.out) (by kernel_rfl) ?_))))
      go_meet
      exact ⟨rfl, hs⟩
    · have e8 := q6 (by omega)
      have h0' : decide ((0 : Int) < (dn : Int)) = false := by simp; omega
      have h0'' : ¬ (0 : Int) < (dn : Int) := by omega
      have HE8 := Lib.hid e8
      clear q1 q2 q3 q4 q5 q6 q7 h0 e8
      go_wp2_with fail
      go_meet
      exact ⟨by rw [HE8.out]; rfl, hs⟩
  case rest =>
  clear hs
  obtain ⟨rfl, hs⟩ := hcut
  rename World => w
  obtain ⟨nn, hnn⟩ : ∃ nn, nn = 8 * (m - fr) := ⟨_, rfl⟩
  have w1 : IntKind.i64.wrap ((m : Int) - (fr : Int)) = ((m - fr : Nat) : Int) := by rw [IntWalk.i64_in _ (by omega)]; omega
  have w2 : IntKind.i64.wrap (8 * ((m - fr : Nat) : Int)) = (nn : Int) := by rw [IntWalk.i64_in _ (by omega)]; omega
  have w3 : IntKind.u64.wrap (nn : Int) = (nn : Int) := u64_nat (by omega)
  have w0' : ((nn : Int) == 0) = false := by simp; omega
  obtain ⟨at0, hat, w4⟩ := rem_at bi nn (by omega) (by omega)
  have w5 : IntKind.u64.wrap (at0 : Int) = (at0 : Int) := u64_nat (by omega)
  have w6 : IntKind.i64.wrap (at0 : Int) = (at0 : Int) := by rw [IntWalk.i64_in _ (by omega)]
  have HNN := Lib.hid hnn
  have HQ2 := Lib.hid q2
  have HQ4 := Lib.hid q4
  clear q1 q2 q3 q4 q5 q6 q7 hnn
  go_upto_block 0 with (fail)
  clear w1 w2 w3 w0' w4 w5 w6
  go_cut [8] (fun s8 wx => ∃ es : List (BitVec 8), s8 = .bool false ∧ Hid (es.length = m) ∧ Hid (∀ b, bitAt xb b ≠ bitAt es b → 8 * fr + at0 ≤ b ∧ b < 8 * fr + at0 + 32) ∧ St w0 X ([.own 1 rb BB m cb (es.map v8), .blk g9 29 F, .blk g4 27 P] ++ L) wx)
  case first =>
    go_wp2_with fail
    go_loopg [16, 17] 32 (fun gh s16 s17 wr => ∃ (i : Nat) (es : List (BitVec 8)), gh = 32 - i ∧ i ≤ 32 ∧ s16 = .int .i64 (i : Int) ∧ Hid (es.length = m) ∧ Hid (∀ j, bitAt xb j ≠ bitAt es j → 8 * fr + at0 ≤ j ∧ j < 8 * fr + at0 + i) ∧ St w0 X ([.own 1 rb BB m cb (es.map v8), .blk g9 29 F, .blk g4 27 P] ++ L) wr)
    case atStart => exact ⟨0, xb, rfl, by omega, rfl, Lib.hid HM.out.symm, Lib.hid (fun j h => absurd rfl h), hs⟩
    case round =>
      clear hs
      rename World => w
      obtain ⟨i, es, rfl, hi, rfl, HES, HBITS, hs⟩ := hrel
      have w7 : IntKind.i64.wrap ((at0 : Int) + (i : Int)) = ((at0 + i : Nat) : Int) := by have := HNN.out; have := HQ2.out; rw [IntWalk.i64_in _ (by omega)]; omega
      obtain ⟨ki, hki⟩ : ∃ ki, ki = at0 + i := ⟨_, rfl⟩
      rw [← hki] at w7
      by_cases hlt : i < 32 ∧ ki < nn
      · have t1 : decide ((i : Int) < 32) = true := by simp; omega
        have t2 : decide (ki < nn) = true := by simp; omega
        have hi0 : (0 : Int) ≤ (i : Int) := by omega
        have hit : ((i : Int)).toNat = i := by omega
        obtain ⟨j, hj⟩ : ∃ j, j = fr + ki / 8 := ⟨_, rfl⟩
        obtain ⟨jb, hjb⟩ : ∃ j, j = ki % 8 := ⟨_, rfl⟩
        obtain ⟨kd, hkd⟩ : ∃ j, j = ki / 8 := ⟨_, rfl⟩
        have d1 : ((ki : Int)).tdiv 8 = (kd : Int) := by rw [Int.tdiv_eq_ediv_of_nonneg (by omega)]; omega
        have d2 : ((ki : Int)).tmod 8 = (jb : Int) := by rw [Int.tmod_eq_emod_of_nonneg (by omega)]; omega
        have d4 : IntKind.i64.wrap (kd : Int) = (kd : Int) := by have := HNN.out; have := HQ2.out; rw [IntWalk.i64_in _ (by omega)]
        have d5 : IntKind.i64.wrap (jb : Int) = (jb : Int) := by rw [IntWalk.i64_in _ (by omega)]
        have d3 : IntKind.i64.wrap ((fr : Int) + (kd : Int)) = (j : Int) := by have := HNN.out; have := HQ2.out; rw [IntWalk.i64_in _ (by omega)]; omega
        have jm : j < m := by have := HNN.out; omega
        have jm' : (j : Int) < (m : Int) := by omega
        have hb0 : (0 : Int) ≤ (jb : Int) := by omega
        have hbt : ((jb : Int)).toNat = jb := by omega
        have HJ := Lib.hid (show j = (8 * fr + ki) / 8 ∧ jb = (8 * fr + ki) % 8 by omega)
        have HKI := Lib.hid (show ki = at0 + i from hki)
        have h32 := hlt.1
        have HV := Lib.hid (show (es.map v8)[j]? = some (.int .u8 (n8 (es.getD j 0#8))) from v8_at es j (by rw [HES.out]; exact jm))
        have HLL := Lib.hid (show j < (es.map v8).length by rw [List.length_map, HES.out]; exact jm)
        obtain ⟨y, hy⟩ : ∃ y, y = es.getD j 0#8 := ⟨_, rfl⟩
        rw [← hy] at HV
        have HY := Lib.hid hy
        obtain ⟨g, off, rfl, rfl⟩ := hs.own_at 0 rfl (by omega)
        clear hy hki hj hjb hkd hlt
        cases hpb : (n32 (pat >>> i &&& 1#32) == 1) with
        | true =>
          go_upto_region 17 with (fail)
          refine Ch.region' 18 (fun wx => Blk wx g9 F 29) (fun | 11 => true | 17 => true | _ => false) (by kernel_rfl) (by decide +kernel) (hs.drew.hold (.blk g9 29 F) (by simp)) ?_
          replace hs := hs.drew
          generalize w.drew = w at hs ⊢
          change Ch.CW _ _ _ _ _ [0, 1, 2, 3, 4, 5, 6, 7, 8, 9, 10, 11, 12, 13, 14, 15, 16, 17] _ _
          iterate 11 ((first | (refine Ch.pure (v := ?_) (by rfl) (by rfl) (by rfl) (fun wx hS => ?_) ?_; rotate_left; (focus (go_simp; (first | done | with_reducible rfl))))); (try simp only [Act.put, List.setIfInBounds_toArray, List.set_cons_zero, List.set_cons_succ]))
          refine Ch.noise (by rfl) (by rfl) (by rfl) (Se.ld hs rfl rfl ((Reads.own 0 rfl).cell j HV.out) (by kernel_rfl) ?_)
          refine ⟨hs.hold (.blk g9 29 F) (by simp), ?_⟩
          (try simp only [Act.put, List.setIfInBounds_toArray, List.set_cons_zero, List.set_cons_succ])
          iterate 5 ((first | (refine Ch.pure (v := ?_) (by rfl) (by rfl) (by rfl) (fun wx hS => ?_) ?_; rotate_left; (focus (go_simp; (first | done | with_reducible rfl))))); (try simp only [Act.put, List.setIfInBounds_toArray, List.set_cons_zero, List.set_cons_succ]))
          refine Ch.noise (by rfl) (by rfl) (by rfl) (Se.soo 0 (v := .int .u8 (n8 (y ^^^ 1#8 <<< jb))) hs rfl rfl rfl rfl rfl (by kernel_rfl) HLL.out ?_)
          clear hs
          intro w hs
          simp only [List.cons_append, List.nil_append, List.set_cons_zero] at hs
          refine ⟨hs.hold (.blk g9 29 F) (by simp), ?_⟩
          (try simp only [Act.put, List.setIfInBounds_toArray, List.set_cons_zero, List.set_cons_succ])
          refine Ch.done ?_
          try simp only [List.drop_succ_cons, List.drop_zero]
          go_wp2_with fail
          go_roundg (32 - (i + 1))
          case measure => omega
          case rel =>
            refine ⟨i + 1, es.set j (y ^^^ 1#8 <<< jb), rfl, by omega, by go_num, Lib.hid (by rw [List.length_set]; exact HES.out), Lib.hid (fun b hb => ?_), by rw [List.map_set]; exact hs⟩
            have h1 := bit_flip es (8 * fr + ki) (by have := HJ.out.1; have := HES.out; omega) b
            rw [← HJ.out.1, ← HJ.out.2, ← HY.out] at h1
            rw [h1] at hb
            by_cases e : b = 8 * fr + ki
            · have := HKI.out; omega
            · simp only [e, decide_false, Bool.xor_false] at hb
              have := HBITS.out b hb
              omega
        | false =>
          go_wp2_with fail
          go_roundg (32 - (i + 1))
          case measure => omega
          case rel =>
            refine ⟨i + 1, es, rfl, by omega, by go_num, HES, Lib.hid (fun b hb => ?_), hs⟩
            have := HBITS.out b hb
            omega
      · have HX : Hid (∀ b, bitAt xb b ≠ bitAt es b → 8 * fr + at0 ≤ b ∧ b < 8 * fr + at0 + 32) := Lib.hid (fun b hb => by have := HBITS.out b hb; omega)
        have tt : (decide ((i : Int) < 32) = true ∧ decide (ki < nn) = false) ∨ decide ((i : Int) < 32) = false := by
          by_cases h1 : i < 32
          · left; refine ⟨by simp; omega, by simp; omega⟩
          · right; simp; omega
        clear hlt hki HBITS hi
        rcases tt with ⟨t1, t2⟩ | t1
        · go_wp2_with fail
          go_meet
          exact ⟨es, rfl, HES, HX, hs⟩
        · go_wp2_with fail
          go_meet
          exact ⟨es, rfl, HES, HX, hs⟩
  case rest =>
  clear hs
  obtain ⟨es, rfl, HES, HX, hs⟩ := hcut
  rename World => w
  go_upto_region 19 with (first | ((with_reducible refine Se.isL (o := ⟨some 110, _, _, _, _, _⟩) ?_); (refine Se.toL rfl (Se.ldw (o := ⟨some 110, _, _, _, _, _⟩) hs rfl rfl ((Reads.blk 2 rfl)) ((by rw [PL.out]; kernel_rfl)) (by kernel_rfl) ?_))) | ((with_reducible refine Se.isL (o := ⟨some 111, _, _, _, _, _⟩) ?_); (refine Se.toL rfl (Se.ldw (o := ⟨some 111, _, _, _, _, _⟩) hs rfl rfl ((Reads.blk 1 rfl)) ((by rw [FL.out]; kernel_rfl)) (by kernel_rfl) ?_))) | (go_at_call 12; refine Calls.mono (CE.out [_, _, _] _ hs) ?_; clear hs; rintro e w ⟨rb2, BB2, cb2, rfl, hcb2, hs⟩))
  have c1 : (convert 23 9 (.slice BB2 m cb2)).run Try.prog w = .ok (.string (strB xb)) w := run_str w Try.underlying23 Try.underlying5 Try.underlying9 HM.out ((Reads.own 0 rfl) w hs.hold)
  have c2 : (convert 23 9 (.slice BB m cb)).run Try.prog w = .ok (.string (strB es)) w := run_str w Try.underlying23 Try.underlying5 Try.underlying9 HES.out.symm ((Reads.own 1 rfl) w hs.hold)
  by_cases hx : xb = es
  · have sq : ((strB xb).toList == (strB es).toList) = true := by rw [hx]; simp
    have sq2 : (strB xb).toList = (strB es).toList := by rw [hx]
    clear hx CD
    go_wp2_with (first | (go_at_call 11; refine Calls.mono (CK.out [_, _, _, _] _ hs) ?_; clear hs; rintro e w ⟨rfl, hs⟩))
    go_ret
    exact ⟨rfl, hs.drop.drop.drop.drop⟩
  · have sq : ((strB xb).toList == (strB es).toList) = false := by
      have : ¬ (strB xb).toList = (strB es).toList := by
        simp only [strB_list]
        exact hx
      simpa using this
    have sq2 : ¬ (strB xb).toList = (strB es).toList := by simpa using sq
    have HXN := Lib.hid hx
    clear hx
    go_upto_region 21 with (fail)
    clear c1 c2 sq sq2
    go_upto_region 22 with (first | ((with_reducible refine Se.isL (o := ⟨some 123, _, _, _, _, _⟩) ?_); (refine Se.toL rfl (Se.ldw (o := ⟨some 123, _, _, _, _, _⟩) hs rfl rfl ((Reads.blk 2 rfl)) ((by rw [FL.out]; kernel_rfl)) (by kernel_rfl) ?_))) | ((with_reducible refine Se.isL (o := ⟨some 20, _, _, _, _, _⟩) ?_); (refine Se.toL rfl (Se.al (o := ⟨some 20, _, _, _, _, _⟩) hs rfl (HZ.out) ?_); clear hs; rintro w g20 - hs)) | ((with_reducible refine Se.isL (o := ⟨none, _, _, _, _, _⟩) ?_); (refine Se.toL rfl (Se.sow 0 hs rfl rfl rfl rfl (HPO.out) ((by rw [HPL.out]; kernel_rfl)) ((by rw [HPL.out]; rfl)) ?_); clear hs; intro w hs; try simp only [List.cons_append, List.nil_append, List.set_cons_zero] at hs)) | (go_at_call 22; refine Calls.mono (CD.out _ _ _ _ es at0 HES hcb HX HXN.out (Reads.own 1 rfl) hs) ?_; clear hs; rintro e w ⟨r1, QA, en2, ec', r2, QD, dn2, dc', PC, e9, E2, D2, rfl, HE9, HPL, HPO, hs⟩))
    have he9 : ((e9 : Int) != 0) = true := by have := HE9.out; simp; omega
    clear HE9
    go_wp2_with (first | (go_at_call 11; refine Calls.mono (CK.out [_, _, _, _, _, _, _] _ hs) ?_; clear hs; rintro e w ⟨rfl, hs⟩))
    go_ret
    exact ⟨rfl, hs.drop.drop.drop.drop.drop.drop.drop⟩
theorem bursts_any (p : PDU) (al bi : Int) (pat : BitVec 32) {EA DA : Option Addr} {en ec dn dc : Nat} (w0 : World) (he : en = p.en.length) (rE : Rd w0 EA (p.en.map v8)) (hd : dn = p.da.length) (rD : Rd w0 DA (p.da.map v8)) :
    Calls Try.prog 8 #[.agg (pc p.h EA en ec DA dn dc).toArray, .int .i64 al, .int .i64 bi, .int .u32 (n32 pat)] w0 fun e w' => e = .returned (.bool true) ∧ Below w0.heap.size w0 w' := by
  have hs : St w0 [] [.rd EA (p.en.map v8), .rd DA (p.da.map v8)] w0 := St.start w0 (by
    intro a ha
    simp only [List.mem_cons, List.not_mem_nil, or_false] at ha
    rcases ha with rfl | rfl
    · exact rE
    · exact rD) (by simp [Se.ownedL, Se.At.owned])
  exact (bursts_st hs p al bi pat he (Reads.rd 0 rfl) hd (Reads.rd 1 rfl)).mono fun e w' h => ⟨h.1, h.2.below⟩
end Pd
end Go.Proofs.Ytgpbmohfgjmpkaa

/- Layer 35: the law PduApart, the walk. No condition. -/
import Derived.Test.YtgpbmohfgjmpkaaPduKnown
import Derived.Test.YtgpbmohfgjmpkaaPduSame
import Derived.Test.YtgpbmohfgjmpkaaPduInj
set_option linter.unusedSimpArgs false
set_option linter.unusedVariables false
namespace Go.Proofs.Ytgpbmohfgjmpkaa
open Go Go.RowKit
namespace Pd
open Se (St At Reads Cell)
open Li (v8 v8_one Rd Blk Fr)
open Bv (n8 n16 n32 n64)
variable {w0 w : World} {X : List Nat} {L : List At}
attribute [local irreducible] Calls
theorem xconv {P : Program} {w : World} {o : Oper} {ρ : Operand → Value} {src dst e : TypeId} {x : Operand} (ho : o.op = .convert src dst x) {A : Option Addr} {n c : Nat} (hx : ρ x = .slice A n c) {bs : List (BitVec 8)} (hr : Rd w A (bs.map v8)) (hn : n = bs.length) (h1 : P.underlying src = some (.slice e)) (h2 : P.underlying e = some (.int .u8)) (h3 : P.underlying dst = some .string) : (execOp ρ o).run P w = .ok (.value (.string (strB bs))) w := by
  unfold execOp
  simp only [ho, hx, Sem.run_bind, run_str w h1 h2 h3 hn hr, Result.andThen_ok, Sem.run_pure]
set_option maxRecDepth 100000 in
set_option maxHeartbeats 4000000 in
theorem long_st (hs : St w0 X L w) (h : Hd) {EA DA : Option Addr} {en ec dn dc : Nat} {b : Bool} (hb : (decide (3000 < dn) || decide (100 < en)) = b) : Calls Try.prog 10 #[.agg (pc h EA en ec DA dn dc).toArray] w fun e w' => e = .returned (.bool b) ∧ St w0 X L w' := by
  obtain ⟨P, hP⟩ : ∃ P, P = pc h EA en ec DA dn dc := ⟨_, rfl⟩
  have P3 := Lib.hid (show P[3]? = some (.slice EA en ec) by rw [hP]; rfl)
  have P13 := Lib.hid (show P[13]? = some (.slice DA dn dc) by rw [hP]; rfl)
  obtain ⟨b1, hb1⟩ : ∃ b, decide (3000 < dn) = b := ⟨_, rfl⟩
  obtain ⟨b2, hb2⟩ : ∃ b, decide (100 < en) = b := ⟨_, rfl⟩
  have e1 : decide ((3000 : Int) < (dn : Int)) = b1 := by rw [← hb1]; simp only [decide_eq_decide]; omega
  have e2 : decide ((100 : Int) < (en : Int)) = b2 := by rw [← hb2]; simp only [decide_eq_decide]; omega
  rw [hb1, hb2] at hb
  have HB := Lib.hid hb
  rw [← hP]
  clear hP hb hb1 hb2
  cases b1 with
  | true =>
    obtain rfl : b = true := HB.out.symm
    go_enter Try.func10, Try.ntmps10
    go_wp2_with (first | ((with_reducible refine Se.isL (o := ⟨some 4, _, _, _, _, _⟩) ?_); (refine Se.toL rfl (Se.ld (o := ⟨some 4, _, _, _, _, _⟩) hs rfl rfl (Cell.blk 0 rfl P13.out) (by kernel_rfl) ?_))) | ((first | with_reducible refine Se.ab hs ?_ | with_reducible refine Se.abc hs ?_); clear hs; (first | (generalize w.heap.size = g1; intro w hs))))
    go_ret
    exact ⟨rfl, hs.drop⟩
  | false =>
    obtain rfl : b = b2 := HB.out.symm
    go_enter Try.func10, Try.ntmps10
    go_wp2_with (first | ((with_reducible refine Se.isL (o := ⟨some 4, _, _, _, _, _⟩) ?_); (refine Se.toL rfl (Se.ld (o := ⟨some 4, _, _, _, _, _⟩) hs rfl rfl (Cell.blk 0 rfl P13.out) (by kernel_rfl) ?_))) | ((with_reducible refine Se.isL (o := ⟨some 9, _, _, _, _, _⟩) ?_); (refine Se.toL rfl (Se.ld (o := ⟨some 9, _, _, _, _, _⟩) hs rfl rfl (Cell.blk 0 rfl P3.out) (by kernel_rfl) ?_))) | ((first | with_reducible refine Se.ab hs ?_ | with_reducible refine Se.abc hs ?_); clear hs; (first | (generalize w.heap.size = g1; intro w hs))))
    go_ret
    exact ⟨rfl, hs.drop⟩
theorem encE_e (p : PDU) (f : Fm) : (encE p f).2 = 0 ∨ (encE p f).2 = 2 := by unfold encE; split <;> (try split) <;> simp
theorem encE_ok' {p : PDU} {f : Fm} (h : (encE p f).2 = 0) : framed f = true ∧ valid p = true := by
  unfold encE at h
  split at h
  · split at h
    · exact ⟨‹_›, ‹_›⟩
    · cases h
  · cases h
set_option maxRecDepth 100000 in
set_option maxHeartbeats 4000000 in
theorem apart_st (hs : St w0 X L w) (p q : PDU) (f : Fm) {EA DA EB DB : Option Addr} {en ec dn dc em ed dm dd : Nat} (he : en = p.en.length) (rE : Reads L EA (p.en.map v8)) (hd : dn = p.da.length) (rD : Reads L DA (p.da.map v8)) (hf : em = q.en.length) (rF : Reads L EB (q.en.map v8)) (hg : dm = q.da.length) (rG : Reads L DB (q.da.map v8)) :
    Calls Try.prog 5 #[.agg (pc p.h EA en ec DA dn dc).toArray, .agg (pc q.h EB em ed DB dm dd).toArray, fv f] w fun e w' => e = .returned (.bool true) ∧ St w0 X L w' := by
  obtain ⟨P, hP⟩ : ∃ P, P = pc p.h EA en ec DA dn dc := ⟨_, rfl⟩
  obtain ⟨Q, hQ⟩ : ∃ Q, Q = pc q.h EB em ed DB dm dd := ⟨_, rfl⟩
  obtain ⟨F, hF0⟩ : ∃ F, F = fl f := ⟨_, rfl⟩
  obtain ⟨b1, hb1⟩ : ∃ b, (decide (3000 < dn) || decide (100 < en)) = b := ⟨_, rfl⟩
  obtain ⟨b2, hb2⟩ : ∃ b, (decide (3000 < dm) || decide (100 < em)) = b := ⟨_, rfl⟩
  have PL := Lib.hid (show P.length = 14 by rw [hP]; rfl)
  have QL := Lib.hid (show Q.length = 14 by rw [hQ]; rfl)
  have FL := Lib.hid (show F.length = 3 by rw [hF0]; rfl)
  have C1 : Hid (∀ (L' : List At) (w : World), St w0 X (L' ++ L) w → Calls Try.prog 10 #[.agg P.toArray] w fun e w' => e = .returned (.bool b1) ∧ St w0 X (L' ++ L) w') := Lib.hid (fun L' w hs => by rw [hP]; exact long_st hs p.h hb1)
  have C2 : Hid (∀ (L' : List At) (w : World), St w0 X (L' ++ L) w → Calls Try.prog 10 #[.agg Q.toArray] w fun e w' => e = .returned (.bool b2) ∧ St w0 X (L' ++ L) w') := Lib.hid (fun L' w hs => by rw [hQ]; exact long_st hs q.h hb2)
  have CK : Hid (∀ (L' : List At) (w : World), St w0 X (L' ++ L) w → Calls Try.prog 11 #[] w fun e w' => e = .returned (.bool true) ∧ St w0 X (L' ++ L) w') := Lib.hid (fun L' w hs => known_st hs)
  cases b1 with
  | true =>
    rw [← hP, ← hQ, fv_eq, ← hF0]
    clear hP hQ hF0 hb1 hb2 he hd hf hg rE rD rF rG
    go_enter Try.func5, Try.ntmps5
    go_wp2_with (first | ((with_reducible refine Se.isL (o := ⟨some 11, _, _, _, _, _⟩) ?_); (refine Se.toL rfl (Se.ldw (o := ⟨some 11, _, _, _, _, _⟩) hs rfl rfl ((Reads.blk 2 rfl)) ((by rw [PL.out]; kernel_rfl)) (by kernel_rfl) ?_))) | ((first | with_reducible refine Se.ab hs ?_ | with_reducible refine Se.abc hs ?_); clear hs; (first | ((fail_if_success (have _q := g3)); generalize w.heap.size = g3; intro w hs) | ((fail_if_success (have _q := g4)); generalize w.heap.size = g4; intro w hs) | (generalize w.heap.size = g5; intro w hs))) | (go_at_call 10; refine Calls.mono (C1.out [_, _, _] _ hs) ?_; clear hs; rintro e w ⟨rfl, hs⟩) | (go_at_call 11; refine Calls.mono (CK.out [_, _, _] _ hs) ?_; clear hs; rintro e w ⟨rfl, hs⟩))
    go_ret
    exact ⟨rfl, hs.drop.drop.drop⟩
  | false =>
    cases b2 with
    | true =>
      rw [← hP, ← hQ, fv_eq, ← hF0]
      clear hP hQ hF0 hb1 hb2 he hd hf hg rE rD rF rG
      go_enter Try.func5, Try.ntmps5
      go_wp2_with (first | ((with_reducible refine Se.isL (o := ⟨some 11, _, _, _, _, _⟩) ?_); (refine Se.toL rfl (Se.ldw (o := ⟨some 11, _, _, _, _, _⟩) hs rfl rfl ((Reads.blk 2 rfl)) ((by rw [PL.out]; kernel_rfl)) (by kernel_rfl) ?_))) | ((with_reducible refine Se.isL (o := ⟨some 14, _, _, _, _, _⟩) ?_); (refine Se.toL rfl (Se.ldw (o := ⟨some 14, _, _, _, _, _⟩) hs rfl rfl ((Reads.blk 1 rfl)) ((by rw [QL.out]; kernel_rfl)) (by kernel_rfl) ?_))) | ((first | with_reducible refine Se.ab hs ?_ | with_reducible refine Se.abc hs ?_); clear hs; (first | ((fail_if_success (have _q := g3)); generalize w.heap.size = g3; intro w hs) | ((fail_if_success (have _q := g4)); generalize w.heap.size = g4; intro w hs) | (generalize w.heap.size = g5; intro w hs))) | (go_at_call 10; refine Calls.mono (C1.out [_, _, _] _ hs) ?_; clear hs; rintro e w ⟨rfl, hs⟩) | (go_at_call 10; refine Calls.mono (C2.out [_, _, _] _ hs) ?_; clear hs; rintro e w ⟨rfl, hs⟩) | (go_at_call 11; refine Calls.mono (CK.out [_, _, _] _ hs) ?_; clear hs; rintro e w ⟨rfl, hs⟩))
      go_ret
      exact ⟨rfl, hs.drop.drop.drop⟩
    | false =>
      have l1 : dn ≤ 3000 ∧ en ≤ 100 := by simp at hb1; omega
      have l2 : dm ≤ 3000 ∧ em ≤ 100 := by simp at hb2; omega
      obtain ⟨r, hr⟩ : ∃ r, (p.en == q.en && p.da == q.da && eqH p.h q.h) = r := ⟨_, rfl⟩
      have hrr : (p.en == p.en && p.da == p.da && eqH p.h p.h) = true := by rw [eqH_iff]; simp
      obtain ⟨⟨s1, e1⟩, hs1⟩ : ∃ x, encE p f = x := ⟨_, rfl⟩
      obtain ⟨⟨s2, e2⟩, hs2⟩ : ∃ x, encE q f = x := ⟨_, rfl⟩
      have hE1 : e1 = 0 ∨ e1 = 2 := by have := encE_e p f; rwa [hs1] at this
      have hE2 : e2 = 0 ∨ e2 = 2 := by have := encE_e q f; rwa [hs2] at this
      have hEQ : e1 = 0 → e2 = 0 → (s1 == s2) = r := by
        rintro rfl rfl
        have o1 := encE_ok' (p := p) (f := f) (by rw [hs1])
        have o2 := encE_ok' (p := q) (f := f) (by rw [hs2])
        rw [encE_ok o1.1 o1.2] at hs1
        rw [encE_ok o2.1 o2.2] at hs2
        cases hs1
        cases hs2
        rw [← hr, eqH_iff, Bool.eq_iff_iff]
        simp only [beq_iff_eq, Bool.and_eq_true, decide_eq_true_eq]
        constructor
        · intro h
          have := enc_inj o1.1 o1.2 o2.2 h
          subst this
          exact ⟨⟨rfl, rfl⟩, rfl⟩
        · rintro ⟨⟨h1, h2⟩, h3⟩
          have : p = q := by cases p; cases q; simp_all
          rw [this]
      have CE : Hid (∀ (L' : List At) (w : World), St w0 X (L' ++ L) w → Calls Try.prog 20 #[.agg P.toArray, .agg Q.toArray] w fun e w' => e = .returned (.bool r) ∧ St w0 X (L' ++ L) w') := Lib.hid (fun L' w hs => by rw [hP, hQ]; exact equalP_st hs p.h q.h he hf hd hg (rE.app L') (rF.app L') (rD.app L') (rG.app L') (by omega) (by omega) hr)
      have CR : Hid (∀ (L' : List At) (w : World), St w0 X (L' ++ L) w → Calls Try.prog 20 #[.agg P.toArray, .agg P.toArray] w fun e w' => e = .returned (.bool true) ∧ St w0 X (L' ++ L) w') := Lib.hid (fun L' w hs => by rw [hP]; exact equalP_st hs p.h p.h he he hd hd (rE.app L') (rE.app L') (rD.app L') (rD.app L') (by omega) (by omega) hrr)
      have CS : Hid (∀ (L' : List At) (w : World), St w0 X (L' ++ L) w → Calls Try.prog 21 #[.agg P.toArray, .agg Q.toArray] w fun e w' => e = .returned (.bool r) ∧ St w0 X (L' ++ L) w') := Lib.hid (fun L' w hs => by rw [hP, hQ]; exact rSame_st hs p.h q.h he hf hd hg (rE.app L') (rF.app L') (rD.app L') (rG.app L') hr)
      have CA : Hid (∀ (L' : List At) (w : World), St w0 X (L' ++ L) w → Calls Try.prog 12 #[.agg P.toArray, .agg F.toArray] w fun e' w' => ∃ r B c, e' = .returned (.tuple #[.slice B s1.length c, iv e1]) ∧ St w0 X (.own 1 r B s1.length c (s1.map v8) :: (L' ++ L)) w') := Lib.hid (fun L' w hs => by rw [hP, hF0, ← fv_eq]; exact encode_st hs p f (rE.app L') (rD.app L') he hd (by omega) (by omega) hs1 rfl)
      have CB : Hid (∀ (L' : List At) (w : World), St w0 X (L' ++ L) w → Calls Try.prog 12 #[.agg Q.toArray, .agg F.toArray] w fun e' w' => ∃ r B c, e' = .returned (.tuple #[.slice B s2.length c, iv e2]) ∧ St w0 X (.own 1 r B s2.length c (s2.map v8) :: (L' ++ L)) w') := Lib.hid (fun L' w hs => by rw [hQ, hF0, ← fv_eq]; exact encode_st hs q f (rF.app L') (rG.app L') hf hg (by omega) (by omega) hs2 rfl)
      rw [← hP, ← hQ, fv_eq, ← hF0]
      have HEQ := Lib.hid hEQ
      clear hP hQ hF0 hb1 hb2 he hd hf hg rE rD rF rG hr hrr hs1 hs2 hEQ l1 l2
      go_enter Try.func5, Try.ntmps5
      go_upto_region 3 with (first | ((with_reducible refine Se.isL (o := ⟨some 11, _, _, _, _, _⟩) ?_); (refine Se.toL rfl (Se.ldw (o := ⟨some 11, _, _, _, _, _⟩) hs rfl rfl ((Reads.blk 2 rfl)) ((by rw [PL.out]; kernel_rfl)) (by kernel_rfl) ?_))) | ((with_reducible refine Se.isL (o := ⟨some 14, _, _, _, _, _⟩) ?_); (refine Se.toL rfl (Se.ldw (o := ⟨some 14, _, _, _, _, _⟩) hs rfl rfl ((Reads.blk 1 rfl)) ((by rw [QL.out]; kernel_rfl)) (by kernel_rfl) ?_))) | ((first | with_reducible refine Se.ab hs ?_ | with_reducible refine Se.abc hs ?_); clear hs; (first | ((fail_if_success (have _q := g3)); generalize w.heap.size = g3; intro w hs) | ((fail_if_success (have _q := g4)); generalize w.heap.size = g4; intro w hs) | (generalize w.heap.size = g5; intro w hs))) | (go_at_call 10; refine Calls.mono (C1.out [_, _, _] _ hs) ?_; clear hs; rintro e w ⟨rfl, hs⟩) | (go_at_call 10; refine Calls.mono (C2.out [_, _, _] _ hs) ?_; clear hs; rintro e w ⟨rfl, hs⟩))
      refine Ch.region' 13 (fun wx => Blk wx g3 P 27 ∧ Blk wx g4 Q 27) (fun | 2 => true | 5 => true | 10 => true | _ => false) (by kernel_rfl) (by decide +kernel) (⟨hs.drew.hold (.blk g3 27 P) (by simp), hs.drew.hold (.blk g4 27 Q) (by simp)⟩) ?_
      replace hs := hs.drew
      generalize w.drew = w at hs ⊢
      change Ch.CW _ _ _ _ _ [0, 1, 2, 3, 4, 5, 6, 7, 8, 9, 10, 11, 12] _ _
      iterate 1 ((first | (refine Ch.pure (v := ?_) (by rfl) (by rfl) (by rfl) (fun wx hS => ?_) ?_; rotate_left; (focus (go_simp; (first | done | with_reducible rfl)))) | refine Ch.pure (v := _) (by rfl) (by rfl) (by rfl) (fun wx hS => Se.xla rfl rfl (Li.Rd.of_blk hS.1) (by rw [PL.out] <;> kernel_rfl) (by kernel_rfl)) ?_); (try simp only [Act.put, List.setIfInBounds_toArray, List.set_cons_zero, List.set_cons_succ]))
      iterate 1 ((first | (refine Ch.pure (v := ?_) (by rfl) (by rfl) (by rfl) (fun wx hS => ?_) ?_; rotate_left; (focus (go_simp; (first | done | with_reducible rfl)))) | refine Ch.pure (v := _) (by rfl) (by rfl) (by rfl) (fun wx hS => Se.xla rfl rfl (Li.Rd.of_blk hS.2) (by rw [QL.out] <;> kernel_rfl) (by kernel_rfl)) ?_); (try simp only [Act.put, List.setIfInBounds_toArray, List.set_cons_zero, List.set_cons_succ]))
      refine Ch.noise (by rfl) (by rfl) (by rfl) ?_
      refine Se.gcall (f := 20) (args := #[.agg P.toArray, .agg Q.toArray]) ?_ ?_
      · go_simp
      refine Calls.mono (CE.out [_, _, _] _ hs) ?_
      clear hs
      rintro e w ⟨rfl, hs⟩
      refine ⟨_, rfl, ⟨hs.hold (.blk g3 27 P) (by simp), hs.hold (.blk g4 27 Q) (by simp)⟩, ?_⟩
      (try simp only [Act.put, List.setIfInBounds_toArray, List.set_cons_zero, List.set_cons_succ])
      iterate 1 ((first | (refine Ch.pure (v := ?_) (by rfl) (by rfl) (by rfl) (fun wx hS => ?_) ?_; rotate_left; (focus (go_simp; (first | done | with_reducible rfl)))) | refine Ch.pure (v := _) (by rfl) (by rfl) (by rfl) (fun wx hS => Se.xla rfl rfl (Li.Rd.of_blk hS.1) (by rw [PL.out] <;> kernel_rfl) (by kernel_rfl)) ?_); (try simp only [Act.put, List.setIfInBounds_toArray, List.set_cons_zero, List.set_cons_succ]))
      iterate 1 ((first | (refine Ch.pure (v := ?_) (by rfl) (by rfl) (by rfl) (fun wx hS => ?_) ?_; rotate_left; (focus (go_simp; (first | done | with_reducible rfl)))) | refine Ch.pure (v := _) (by rfl) (by rfl) (by rfl) (fun wx hS => Se.xla rfl rfl (Li.Rd.of_blk hS.2) (by rw [QL.out] <;> kernel_rfl) (by kernel_rfl)) ?_); (try simp only [Act.put, List.setIfInBounds_toArray, List.set_cons_zero, List.set_cons_succ]))
      refine Ch.noise (by rfl) (by rfl) (by rfl) ?_
      refine Se.gcall (f := 21) (args := #[.agg P.toArray, .agg Q.toArray]) ?_ ?_
      · go_simp
      refine Calls.mono (CS.out [_, _, _] _ hs) ?_
      clear hs
      rintro e w ⟨rfl, hs⟩
      refine ⟨_, rfl, ⟨hs.hold (.blk g3 27 P) (by simp), hs.hold (.blk g4 27 Q) (by simp)⟩, ?_⟩
      (try simp only [Act.put, List.setIfInBounds_toArray, List.set_cons_zero, List.set_cons_succ])
      iterate 2 ((first | (refine Ch.pure (v := ?_) (by rfl) (by rfl) (by rfl) (fun wx hS => ?_) ?_; rotate_left; (focus (go_simp; (first | done | with_reducible rfl))))); (try simp only [Act.put, List.setIfInBounds_toArray, List.set_cons_zero, List.set_cons_succ]))
      iterate 1 ((first | (refine Ch.pure (v := ?_) (by rfl) (by rfl) (by rfl) (fun wx hS => ?_) ?_; rotate_left; (focus (go_simp; (first | done | with_reducible rfl)))) | refine Ch.pure (v := _) (by rfl) (by rfl) (by rfl) (fun wx hS => Se.xla rfl rfl (Li.Rd.of_blk hS.1) (by rw [PL.out] <;> kernel_rfl) (by kernel_rfl)) ?_); (try simp only [Act.put, List.setIfInBounds_toArray, List.set_cons_zero, List.set_cons_succ]))
      iterate 1 ((first | (refine Ch.pure (v := ?_) (by rfl) (by rfl) (by rfl) (fun wx hS => ?_) ?_; rotate_left; (focus (go_simp; (first | done | with_reducible rfl)))) | refine Ch.pure (v := _) (by rfl) (by rfl) (by rfl) (fun wx hS => Se.xla rfl rfl (Li.Rd.of_blk hS.1) (by rw [PL.out] <;> kernel_rfl) (by kernel_rfl)) ?_); (try simp only [Act.put, List.setIfInBounds_toArray, List.set_cons_zero, List.set_cons_succ]))
      refine Ch.noise (by rfl) (by rfl) (by rfl) ?_
      refine Se.gcall (f := 20) (args := #[.agg P.toArray, .agg P.toArray]) ?_ ?_
      · go_simp
      refine Calls.mono (CR.out [_, _, _] _ hs) ?_
      clear hs
      rintro e w ⟨rfl, hs⟩
      refine ⟨_, rfl, ⟨hs.hold (.blk g3 27 P) (by simp), hs.hold (.blk g4 27 Q) (by simp)⟩, ?_⟩
      (try simp only [Act.put, List.setIfInBounds_toArray, List.set_cons_zero, List.set_cons_succ])
      iterate 2 ((first | (refine Ch.pure (v := ?_) (by rfl) (by rfl) (by rfl) (fun wx hS => ?_) ?_; rotate_left; (focus (go_simp; (first | done | with_reducible rfl))))); (try simp only [Act.put, List.setIfInBounds_toArray, List.set_cons_zero, List.set_cons_succ]))
      refine Ch.done ?_
      try simp only [List.drop_succ_cons, List.drop_zero]
      go_upto_region 7 with (first | ((with_reducible refine Se.isL (o := ⟨some 32, _, _, _, _, _⟩) ?_); (refine Se.toL rfl (Se.ldw (o := ⟨some 32, _, _, _, _, _⟩) hs rfl rfl ((Reads.blk 2 rfl)) ((by rw [PL.out]; kernel_rfl)) (by kernel_rfl) ?_))) | ((with_reducible refine Se.isL (o := ⟨some 33, _, _, _, _, _⟩) ?_); (refine Se.toL rfl (Se.ldw (o := ⟨some 33, _, _, _, _, _⟩) hs rfl rfl ((Reads.blk 0 rfl)) ((by rw [FL.out]; kernel_rfl)) (by kernel_rfl) ?_))) | ((with_reducible refine Se.isL (o := ⟨some 38, _, _, _, _, _⟩) ?_); (refine Se.toL rfl (Se.ldw (o := ⟨some 38, _, _, _, _, _⟩) hs rfl rfl ((Reads.blk 2 rfl)) ((by rw [QL.out]; kernel_rfl)) (by kernel_rfl) ?_))) | ((with_reducible refine Se.isL (o := ⟨some 39, _, _, _, _, _⟩) ?_); (refine Se.toL rfl (Se.ldw (o := ⟨some 39, _, _, _, _, _⟩) hs rfl rfl ((Reads.blk 1 rfl)) ((by rw [FL.out]; kernel_rfl)) (by kernel_rfl) ?_))) | (go_at_call 12; refine Calls.mono (CA.out [_, _, _] _ hs) ?_; clear hs; rintro e w ⟨r1, B1, k1, rfl, hs⟩) | (go_at_call 12; refine Calls.mono (CB.out [_, _, _, _] _ hs) ?_; clear hs; rintro e w ⟨r2, B2, k2, rfl, hs⟩))
      have HS1 := Lib.hid (show Reads [.own 1 r2 B2 s2.length k2 (s2.map v8), .own 1 r1 B1 s1.length k1 (s1.map v8)] B1 (s1.map v8) from Reads.own 1 rfl)
      rcases hE1 with rfl | rfl
      · rcases hE2 with rfl | rfl
        · have hq := HEQ.out rfl rfl
          have SE : ((strB s1).toList == (strB s2).toList) = r := by rw [← hq, Bool.eq_iff_iff]; simp [strB_list]
          have TE : ((strB s1).toList = (strB s2).toList) = (r = true) := by rw [← hq]; simp [strB_list]
          clear hq
          refine Ch.region' 21 (fun wx => Blk wx g3 P 27 ∧ Blk wx g4 Q 27 ∧ Rd wx B1 (s1.map v8) ∧ Rd wx B2 (s2.map v8)) (fun | 14 => true | 18 => true | _ => false) (by kernel_rfl) (by decide +kernel) (⟨hs.drew.hold (.blk g3 27 P) (by simp), hs.drew.hold (.blk g4 27 Q) (by simp), Se.Ow.rd (hs.drew.hold (.own 1 r1 B1 s1.length k1 (s1.map v8)) (by simp)), Se.Ow.rd (hs.drew.hold (.own 1 r2 B2 s2.length k2 (s2.map v8)) (by simp))⟩) ?_
          replace hs := hs.drew
          generalize w.drew = w at hs ⊢
          change Ch.CW _ _ _ _ _ [0, 1, 2, 3, 4, 5, 6, 7, 8, 9, 10, 11, 12, 13, 14, 15, 16, 17, 18, 19, 20] _ _
          iterate 8 ((first | (refine Ch.pure (v := ?_) (by rfl) (by rfl) (by rfl) (fun wx hS => ?_) ?_; rotate_left; (focus (go_simp; (first | done | with_reducible rfl))))); (try simp only [Act.put, List.setIfInBounds_toArray, List.set_cons_zero, List.set_cons_succ]))
          refine Ch.pure (v := .string (strB s1)) (by rfl) (by rfl) (by rfl) (fun wx hS => xconv rfl rfl hS.2.2.1 rfl Try.underlying23 Try.underlying5 Try.underlying9) ?_
          (try simp only [Act.put, List.setIfInBounds_toArray, List.set_cons_zero, List.set_cons_succ])
          iterate 1 ((first | (refine Ch.pure (v := ?_) (by rfl) (by rfl) (by rfl) (fun wx hS => ?_) ?_; rotate_left; (focus (go_simp; (first | done | with_reducible rfl))))); (try simp only [Act.put, List.setIfInBounds_toArray, List.set_cons_zero, List.set_cons_succ]))
          refine Ch.pure (v := .string (strB s2)) (by rfl) (by rfl) (by rfl) (fun wx hS => xconv rfl rfl hS.2.2.2 rfl Try.underlying23 Try.underlying5 Try.underlying9) ?_
          (try simp only [Act.put, List.setIfInBounds_toArray, List.set_cons_zero, List.set_cons_succ])
          refine Ch.pure (v := .bool r) (by rfl) (by rfl) (by rfl) (fun wx hS => by go_simp) ?_
          (try simp only [Act.put, List.setIfInBounds_toArray, List.set_cons_zero, List.set_cons_succ])
          iterate 1 ((first | (refine Ch.pure (v := ?_) (by rfl) (by rfl) (by rfl) (fun wx hS => ?_) ?_; rotate_left; (focus (go_simp; (first | done | with_reducible rfl)))) | refine Ch.pure (v := _) (by rfl) (by rfl) (by rfl) (fun wx hS => Se.xla rfl rfl (Li.Rd.of_blk hS.1) (by rw [PL.out] <;> kernel_rfl) (by kernel_rfl)) ?_); (try simp only [Act.put, List.setIfInBounds_toArray, List.set_cons_zero, List.set_cons_succ]))
          iterate 1 ((first | (refine Ch.pure (v := ?_) (by rfl) (by rfl) (by rfl) (fun wx hS => ?_) ?_; rotate_left; (focus (go_simp; (first | done | with_reducible rfl)))) | refine Ch.pure (v := _) (by rfl) (by rfl) (by rfl) (fun wx hS => Se.xla rfl rfl (Li.Rd.of_blk hS.2.1) (by rw [QL.out] <;> kernel_rfl) (by kernel_rfl)) ?_); (try simp only [Act.put, List.setIfInBounds_toArray, List.set_cons_zero, List.set_cons_succ]))
          refine Ch.noise (by rfl) (by rfl) (by rfl) ?_
          refine Se.gcall (f := 21) (args := #[.agg P.toArray, .agg Q.toArray]) ?_ ?_
          · go_simp
          refine Calls.mono (CS.out [_, _, _, _, _] _ hs) ?_
          clear hs
          rintro e w ⟨rfl, hs⟩
          refine ⟨_, rfl, ⟨hs.hold (.blk g3 27 P) (by simp), hs.hold (.blk g4 27 Q) (by simp), Se.Ow.rd (hs.hold (.own 1 r1 B1 s1.length k1 (s1.map v8)) (by simp)), Se.Ow.rd (hs.hold (.own 1 r2 B2 s2.length k2 (s2.map v8)) (by simp))⟩, ?_⟩
          (try simp only [Act.put, List.setIfInBounds_toArray, List.set_cons_zero, List.set_cons_succ])
          refine Ch.pure (v := .bool true) (by rfl) (by rfl) (by rfl) (fun wx hS => by go_simp) ?_
          (try simp only [Act.put, List.setIfInBounds_toArray, List.set_cons_zero, List.set_cons_succ])
          iterate 2 ((first | (refine Ch.pure (v := ?_) (by rfl) (by rfl) (by rfl) (fun wx hS => ?_) ?_; rotate_left; (focus (go_simp; (first | done | with_reducible rfl))))); (try simp only [Act.put, List.setIfInBounds_toArray, List.set_cons_zero, List.set_cons_succ]))
          refine Ch.noise (by rfl) (by rfl) (by rfl) ?_
          refine Se.gcall (f := 11) (args := #[]) ?_ ?_
          · go_simp
          refine Calls.mono (CK.out [_, _, _, _, _] _ hs) ?_
          clear hs
          rintro e w ⟨rfl, hs⟩
          refine ⟨_, rfl, ⟨hs.hold (.blk g3 27 P) (by simp), hs.hold (.blk g4 27 Q) (by simp), Se.Ow.rd (hs.hold (.own 1 r1 B1 s1.length k1 (s1.map v8)) (by simp)), Se.Ow.rd (hs.hold (.own 1 r2 B2 s2.length k2 (s2.map v8)) (by simp))⟩, ?_⟩
          (try simp only [Act.put, List.setIfInBounds_toArray, List.set_cons_zero, List.set_cons_succ])
          iterate 2 ((first | (refine Ch.pure (v := ?_) (by rfl) (by rfl) (by rfl) (fun wx hS => ?_) ?_; rotate_left; (focus (go_simp; (first | done | with_reducible rfl))))); (try simp only [Act.put, List.setIfInBounds_toArray, List.set_cons_zero, List.set_cons_succ]))
          refine Ch.done ?_
          try simp only [List.drop_succ_cons, List.drop_zero]
          go_wp2_with fail
          go_ret
          exact ⟨rfl, hs.drop.drop.drop.drop.drop⟩
        · skip
          refine Ch.region' 21 (fun wx => Blk wx g3 P 27 ∧ Blk wx g4 Q 27 ∧ Rd wx B1 (s1.map v8) ∧ Rd wx B2 (s2.map v8)) (fun | 14 => true | 18 => true | _ => false) (by kernel_rfl) (by decide +kernel) (⟨hs.drew.hold (.blk g3 27 P) (by simp), hs.drew.hold (.blk g4 27 Q) (by simp), Se.Ow.rd (hs.drew.hold (.own 1 r1 B1 s1.length k1 (s1.map v8)) (by simp)), Se.Ow.rd (hs.drew.hold (.own 1 r2 B2 s2.length k2 (s2.map v8)) (by simp))⟩) ?_
          replace hs := hs.drew
          generalize w.drew = w at hs ⊢
          change Ch.CW _ _ _ _ _ [0, 1, 2, 3, 4, 5, 6, 7, 8, 9, 10, 11, 12, 13, 14, 15, 16, 17, 18, 19, 20] _ _
          iterate 7 ((first | (refine Ch.pure (v := ?_) (by rfl) (by rfl) (by rfl) (fun wx hS => ?_) ?_; rotate_left; (focus (go_simp; (first | done | with_reducible rfl))))); (try simp only [Act.put, List.setIfInBounds_toArray, List.set_cons_zero, List.set_cons_succ]))
          iterate 9 (refine Ch.skip (by rfl) (by rfl) ?_; (try simp only [Act.put, List.setIfInBounds_toArray, List.set_cons_zero, List.set_cons_succ]))
          iterate 2 ((first | (refine Ch.pure (v := ?_) (by rfl) (by rfl) (by rfl) (fun wx hS => ?_) ?_; rotate_left; (focus (go_simp; (first | done | with_reducible rfl))))); (try simp only [Act.put, List.setIfInBounds_toArray, List.set_cons_zero, List.set_cons_succ]))
          refine Ch.noise (by rfl) (by rfl) (by rfl) ?_
          refine Se.gcall (f := 11) (args := #[]) ?_ ?_
          · go_simp
          refine Calls.mono (CK.out [_, _, _, _, _] _ hs) ?_
          clear hs
          rintro e w ⟨rfl, hs⟩
          refine ⟨_, rfl, ⟨hs.hold (.blk g3 27 P) (by simp), hs.hold (.blk g4 27 Q) (by simp), Se.Ow.rd (hs.hold (.own 1 r1 B1 s1.length k1 (s1.map v8)) (by simp)), Se.Ow.rd (hs.hold (.own 1 r2 B2 s2.length k2 (s2.map v8)) (by simp))⟩, ?_⟩
          (try simp only [Act.put, List.setIfInBounds_toArray, List.set_cons_zero, List.set_cons_succ])
          iterate 2 ((first | (refine Ch.pure (v := ?_) (by rfl) (by rfl) (by rfl) (fun wx hS => ?_) ?_; rotate_left; (focus (go_simp; (first | done | with_reducible rfl))))); (try simp only [Act.put, List.setIfInBounds_toArray, List.set_cons_zero, List.set_cons_succ]))
          refine Ch.done ?_
          try simp only [List.drop_succ_cons, List.drop_zero]
          go_wp2_with fail
          go_ret
          exact ⟨rfl, hs.drop.drop.drop.drop.drop⟩
      · skip
        refine Ch.region' 21 (fun wx => Blk wx g3 P 27 ∧ Blk wx g4 Q 27 ∧ Rd wx B1 (s1.map v8) ∧ Rd wx B2 (s2.map v8)) (fun | 14 => true | 18 => true | _ => false) (by kernel_rfl) (by decide +kernel) (⟨hs.drew.hold (.blk g3 27 P) (by simp), hs.drew.hold (.blk g4 27 Q) (by simp), Se.Ow.rd (hs.drew.hold (.own 1 r1 B1 s1.length k1 (s1.map v8)) (by simp)), Se.Ow.rd (hs.drew.hold (.own 1 r2 B2 s2.length k2 (s2.map v8)) (by simp))⟩) ?_
        replace hs := hs.drew
        generalize w.drew = w at hs ⊢
        change Ch.CW _ _ _ _ _ [0, 1, 2, 3, 4, 5, 6, 7, 8, 9, 10, 11, 12, 13, 14, 15, 16, 17, 18, 19, 20] _ _
        iterate 3 ((first | (refine Ch.pure (v := ?_) (by rfl) (by rfl) (by rfl) (fun wx hS => ?_) ?_; rotate_left; (focus (go_simp; (first | done | with_reducible rfl))))); (try simp only [Act.put, List.setIfInBounds_toArray, List.set_cons_zero, List.set_cons_succ]))
        iterate 2 (refine Ch.skip (by rfl) (by rfl) ?_; (try simp only [Act.put, List.setIfInBounds_toArray, List.set_cons_zero, List.set_cons_succ]))
        iterate 2 ((first | (refine Ch.pure (v := ?_) (by rfl) (by rfl) (by rfl) (fun wx hS => ?_) ?_; rotate_left; (focus (go_simp; (first | done | with_reducible rfl))))); (try simp only [Act.put, List.setIfInBounds_toArray, List.set_cons_zero, List.set_cons_succ]))
        iterate 9 (refine Ch.skip (by rfl) (by rfl) ?_; (try simp only [Act.put, List.setIfInBounds_toArray, List.set_cons_zero, List.set_cons_succ]))
        iterate 2 ((first | (refine Ch.pure (v := ?_) (by rfl) (by rfl) (by rfl) (fun wx hS => ?_) ?_; rotate_left; (focus (go_simp; (first | done | with_reducible rfl))))); (try simp only [Act.put, List.setIfInBounds_toArray, List.set_cons_zero, List.set_cons_succ]))
        refine Ch.noise (by rfl) (by rfl) (by rfl) ?_
        refine Se.gcall (f := 11) (args := #[]) ?_ ?_
        · go_simp
        refine Calls.mono (CK.out [_, _, _, _, _] _ hs) ?_
        clear hs
        rintro e w ⟨rfl, hs⟩
        refine ⟨_, rfl, ⟨hs.hold (.blk g3 27 P) (by simp), hs.hold (.blk g4 27 Q) (by simp), Se.Ow.rd (hs.hold (.own 1 r1 B1 s1.length k1 (s1.map v8)) (by simp)), Se.Ow.rd (hs.hold (.own 1 r2 B2 s2.length k2 (s2.map v8)) (by simp))⟩, ?_⟩
        (try simp only [Act.put, List.setIfInBounds_toArray, List.set_cons_zero, List.set_cons_succ])
        iterate 2 ((first | (refine Ch.pure (v := ?_) (by rfl) (by rfl) (by rfl) (fun wx hS => ?_) ?_; rotate_left; (focus (go_simp; (first | done | with_reducible rfl))))); (try simp only [Act.put, List.setIfInBounds_toArray, List.set_cons_zero, List.set_cons_succ]))
        refine Ch.done ?_
        try simp only [List.drop_succ_cons, List.drop_zero]
        go_wp2_with fail
        go_ret
        exact ⟨rfl, hs.drop.drop.drop.drop.drop⟩
theorem apart_any (p q : PDU) (f : Fm) {EA DA EB DB : Option Addr} {en ec dn dc em ed dm dd : Nat} (w0 : World) (he : en = p.en.length) (hE : Rd w0 EA (p.en.map v8)) (hd : dn = p.da.length) (hD : Rd w0 DA (p.da.map v8)) (hf : em = q.en.length) (hF : Rd w0 EB (q.en.map v8)) (hg : dm = q.da.length) (hG : Rd w0 DB (q.da.map v8)) :
    Calls Try.prog 5 #[.agg (pc p.h EA en ec DA dn dc).toArray, .agg (pc q.h EB em ed DB dm dd).toArray, fv f] w0 fun e w' => e = .returned (.bool true) ∧ Below w0.heap.size w0 w' := by
  have hs : St w0 [] [.rd EA (p.en.map v8), .rd DA (p.da.map v8), .rd EB (q.en.map v8), .rd DB (q.da.map v8)] w0 := St.start w0 (by
    intro a ha
    simp only [List.mem_cons, List.not_mem_nil, or_false] at ha
    rcases ha with rfl | rfl | rfl | rfl
    · exact hE
    · exact hD
    · exact hF
    · exact hG) (by simp [Se.ownedL, Se.At.owned])
  exact (apart_st hs p q f he (Reads.rd 0 rfl) hd (Reads.rd 1 rfl) hf (Reads.rd 2 rfl) hg (Reads.rd 3 rfl)).mono fun e w' h => ⟨h.1, h.2.below⟩
end Pd
end Go.Proofs.Ytgpbmohfgjmpkaa

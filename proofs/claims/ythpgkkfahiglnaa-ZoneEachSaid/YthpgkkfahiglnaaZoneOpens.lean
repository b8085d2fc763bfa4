/- Layer 28: opens. No condition but Go's own limits. Printed by wip/gen_zoneopens.py. -/
import Derived.Test.YthpgkkfahiglnaaZoneOps
set_option maxRecDepth 100000
set_option maxHeartbeats 4000000
set_option linter.unusedSimpArgs false
set_option linter.unusedVariables false
namespace Go.Proofs.Ythpgkkfahiglnaa
open Go Go.RowKit
namespace Zo
open Se (St At Reads Cell)
open Li (Rd Blk Fr)
variable {w0 w : World} {X : List Nat} {L : List At}
attribute [local irreducible] Calls
attribute [local go_sem] eql_nil
def lv : Option Nat → Int
 | none => -1
 | some j => (j : Int)
theorem ocs_at (l : List Zn) (i : Nat) (h : i < l.length) (j : Nat) (hj : j < 3) : (ocs l)[i * 3 + j]? = (oc l[i])[j]? := by
 have h1 := ocs_row l i h
 rw [← h1, List.getElem?_take_of_lt hj, List.getElem?_drop]
theorem ocs_set (l : List Zn) : ∀ (i : Nat) (_ : i < l.length) (s : Nat), (ocs l).set (i * 3) (iv s) = ocs (l.set i { l.getD i dz with st := s }) := by
 induction l with
 | nil => intro i h; simp at h
 | cons x l ih =>
  intro i h s
  cases i with
  | zero => rfl
  | succ i =>
   have e : (i + 1) * 3 = (oc x).length + i * 3 := by show (i + 1) * 3 = 3 + i * 3; omega
   show (oc x ++ ocs l).set ((i + 1) * 3) (iv s) = oc x ++ ocs (l.set i { l.getD i dz with st := s })
   rw [e, List.set_append_right _ _ (by omega), Nat.add_sub_cancel_left, ih i (by simpa using h)]
theorem opensE_189 {z : Zs} {i : Nat} (h : (z.l.getD i dz).st = 1 ∧ 0 < z.c.ma ∧ z.c.ma ≤ cntA z.l) : opensE z i = (z, 189) := by unfold opensE; rw [if_pos h]
theorem opensE_now {z : Zs} {i : Nat} (h : ¬ ((z.l.getD i dz).st = 1 ∧ 0 < z.c.ma ∧ z.c.ma ≤ cntA z.l)) (h2 : z.c.mo = 0 ∨ cntO z.l < z.c.mo) : opensE z i = (z, 0) := by unfold opensE; rw [if_neg h, if_pos h2]
theorem opensE_190 {z : Zs} {i : Nat} (h : ¬ ((z.l.getD i dz).st = 1 ∧ 0 < z.c.ma ∧ z.c.ma ≤ cntA z.l)) (h2 : ¬ (z.c.mo = 0 ∨ cntO z.l < z.c.mo)) (h3 : leastN z.l z.l.length = none) : opensE z i = (z, 190) := by unfold opensE; rw [if_neg h, if_neg h2, h3]
theorem opensE_least {z : Zs} {i m : Nat} (h : ¬ ((z.l.getD i dz).st = 1 ∧ 0 < z.c.ma ∧ z.c.ma ≤ cntA z.l)) (h2 : ¬ (z.c.mo = 0 ∨ cntO z.l < z.c.mo)) (h3 : leastN z.l z.l.length = some m) : opensE z i = ({ z with l := z.l.set m { z.l.getD m dz with st := 4 } }, 0) := by unfold opensE; rw [if_neg h, if_neg h2, h3]
def OpR (w0 : World) (X : List Nat) (L : List At) (g cc : Nat) (a : Addr) (r : Option Nat) (z : Zs) (i : Nat) (e' : Ending) (w' : World) : Prop :=
 ((opensE z i).2 = 0 ∧ e' = .returned (.tuple #[]) ∧ St w0 X (pZ g (opensE z i).1 (some a) cc :: pL r (some a) cc (opensE z i).1 :: L) w') ∨ ((opensE z i).2 ≠ 0 ∧ e' = .panicked (chS (opensE z i).2) ∧ St w0 X (pZ g z (some a) cc :: pL r (some a) cc z :: L) w')
theorem opens_st {g cc : Nat} {z : Zs} {a : Addr} {r : Option Nat} (hs : St w0 X (pZ g z (some a) cc :: pL r (some a) cc z :: L) w) (ho : OkZ z) {i : Nat} (hi : i < z.l.length) :
  Calls Try.prog 71 #[.pointer (some ⟨g, 0, none⟩), .int .i64 (i : Int)] w fun e' w' => True ∧ OpR w0 X L g cc a r z i e' w' := by
 obtain ⟨ga, oa, ha, hr⟩ := hs.own_at 1 rfl (by omega)
 obtain rfl : a = ⟨ga, oa, none⟩ := by simpa using ha
 subst hr
 clear ha
 obtain ⟨RL, hRL⟩ : ∃ RL, RL = zcl z (some ⟨ga, oa, none⟩) cc := ⟨_, rfl⟩
 obtain ⟨k, hk⟩ : ∃ n, n = z.l.length := ⟨_, rfl⟩
 have hk1 : k ≤ 4096 := by rw [hk, ho.1]; exact ho.2.2.1
 have hk0 : 0 < k := by omega
 have R5 := Lib.hid (show RL[5]? = some (.slice (some ⟨ga, oa, none⟩) k cc) by rw [hRL, hk]; rfl)
 obtain ⟨mo, hmo⟩ : ∃ n, n = z.c.mo := ⟨_, rfl⟩
 obtain ⟨ma, hma⟩ : ∃ n, n = z.c.ma := ⟨_, rfl⟩
 have R3 := Lib.hid (show RL[3]? = some (iv mo) by rw [hRL, hmo]; rfl)
 have R4 := Lib.hid (show RL[4]? = some (iv ma) by rw [hRL, hma]; rfl)
 obtain ⟨na, hna⟩ : ∃ n, n = cntA z.l := ⟨_, rfl⟩
 obtain ⟨no, hno⟩ : ∃ n, n = cntO z.l := ⟨_, rfl⟩
 obtain ⟨l, hl⟩ : ∃ l, l = z.l := ⟨_, rfl⟩
 obtain ⟨st, hst⟩ : ∃ s, s = (l.getD i dz).st := ⟨_, rfl⟩
 have hgd : ∀ i, (h : i < l.length) → l.getD i dz = l[i] := fun i h => by rw [List.getD_eq_getElem?_getD, List.getElem?_eq_getElem h]; rfl
 have q1 : (st = 1 ∧ 0 < ma ∧ ma ≤ na) = ((z.l.getD i dz).st = 1 ∧ 0 < z.c.ma ∧ z.c.ma ≤ cntA z.l) := by rw [hst, hma, hna, hl]
 have q2 : (mo = 0 ∨ no < mo) = (z.c.mo = 0 ∨ cntO z.l < z.c.mo) := by rw [hmo, hno]
 rw [← hl] at hk hi
 have e1 : pZ g z (some ⟨ga, oa, none⟩) cc = .blk g 71 RL := by rw [hRL]
 have e2 : pL (some ga) (some ⟨ga, oa, none⟩) cc z = .own 3 (some ga) (some ⟨ga, oa, none⟩) k cc (ocs l) := by unfold pL; rw [← hl, ← hk]
 have CAC : Hid (∀ (w : World), St w0 X (.blk g 71 RL :: .own 3 (some ga) (some ⟨ga, oa, none⟩) k cc (ocs l) :: L) w → Calls Try.prog 31 #[.pointer (some ⟨g, 0, none⟩)] w fun e w' => e = .returned (iv na) ∧ St w0 X (.blk g 71 RL :: .own 3 (some ga) (some ⟨ga, oa, none⟩) k cc (ocs l) :: L) w') := Lib.hid (fun w hs => by rw [← e1, ← e2] at hs ⊢; rw [hna]; exact activeN_st hs ho)
 have COC : Hid (∀ (w : World), St w0 X (.blk g 71 RL :: .own 3 (some ga) (some ⟨ga, oa, none⟩) k cc (ocs l) :: L) w → Calls Try.prog 30 #[.pointer (some ⟨g, 0, none⟩)] w fun e w' => e = .returned (iv no) ∧ St w0 X (.blk g 71 RL :: .own 3 (some ga) (some ⟨ga, oa, none⟩) k cc (ocs l) :: L) w') := Lib.hid (fun w hs => by rw [← e1, ← e2] at hs ⊢; rw [hno]; exact openN_st hs ho)
 have CST : Hid (∀ w, St w0 X (.blk g 71 RL :: .own 3 (some ga) (some ⟨ga, oa, none⟩) k cc (ocs l) :: L) w → w.cell? ⟨ga, oa + i * 3, none⟩ = some (iv st)) := Lib.hid (fun w hs => by
  have h := ocs_at l i hi 0 (by decide)
  rw [Nat.add_zero] at h
  exact ((Reads.own 1 rfl).cell (i * 3) (v := iv st) (by rw [h, hst, hgd i hi]; rfl)) w hs.hold)
 have B189 : Hid ((st = 1 ∧ 0 < ma ∧ ma ≤ na) → ∀ w, St w0 X (.blk g 71 RL :: .own 3 (some ga) (some ⟨ga, oa, none⟩) k cc (ocs l) :: L) w → OpR w0 X L g cc ⟨ga, oa, none⟩ (some ga) z i (.panicked (chS 189)) w) := Lib.hid (fun hc w hs => by
  rw [← e1, ← e2] at hs
  have he := opensE_189 (z := z) (i := i) (by rw [← q1]; exact hc)
  exact .inr (by rw [he]; exact ⟨(show (189 : Nat) ≠ 0 by decide), rfl, hs⟩))
 have NOW : Hid (¬ (st = 1 ∧ 0 < ma ∧ ma ≤ na) → (mo = 0 ∨ no < mo) → ∀ w, St w0 X (.blk g 71 RL :: .own 3 (some ga) (some ⟨ga, oa, none⟩) k cc (ocs l) :: L) w → OpR w0 X L g cc ⟨ga, oa, none⟩ (some ga) z i (.returned (.tuple #[])) w) := Lib.hid (fun hc hd w hs => by
  rw [← e1, ← e2] at hs
  have he := opensE_now (z := z) (i := i) (by rw [← q1]; exact hc) (by rw [← q2]; exact hd)
  exact .inl (by rw [he]; exact ⟨rfl, rfl, hs⟩))
 have B190 : Hid (¬ (st = 1 ∧ 0 < ma ∧ ma ≤ na) → ¬ (mo = 0 ∨ no < mo) → leastN l k = none → ∀ w, St w0 X (.blk g 71 RL :: .own 3 (some ga) (some ⟨ga, oa, none⟩) k cc (ocs l) :: L) w → OpR w0 X L g cc ⟨ga, oa, none⟩ (some ga) z i (.panicked (chS 190)) w) := Lib.hid (fun hc hd hn w hs => by
  rw [← e1, ← e2] at hs
  have he := opensE_190 (z := z) (i := i) (by rw [← q1]; exact hc) (by rw [← q2]; exact hd) (by rw [← hl, ← hk]; exact hn)
  exact .inr (by rw [he]; exact ⟨(show (190 : Nat) ≠ 0 by decide), rfl, hs⟩))
 have LEA : Hid (¬ (st = 1 ∧ 0 < ma ∧ ma ≤ na) → ¬ (mo = 0 ∨ no < mo) → ∀ m, leastN l k = some m → ∀ w, St w0 X (.blk g 71 RL :: .own 3 (some ga) (some ⟨ga, oa, none⟩) k cc ((ocs l).set (m * 3) (iv 4)) :: L) w → OpR w0 X L g cc ⟨ga, oa, none⟩ (some ga) z i (.returned (.tuple #[])) w) := Lib.hid (fun hc hd m hn w hs => by
  have hm := (leastN_lt l k m hn).1
  have he := opensE_least (z := z) (i := i) (by rw [← q1]; exact hc) (by rw [← q2]; exact hd) (by rw [← hl, ← hk]; exact hn)
  refine .inl ?_
  rw [he]
  refine ⟨rfl, rfl, ?_⟩
  rw [ocs_set l m (by omega)] at hs
  rw [hRL] at hs
  unfold zcl at hs
  unfold pZ pL zcl
  dsimp only
  rw [List.length_set, ← hl, ← hk]
  rw [← hl, ← hk] at hs
  exact hs)
 rw [e1, e2] at hs
 have HK := Lib.hid hk
 have HGD := Lib.hid hgd
 have HLN := Lib.hid (show (ocs l).length = k * 3 by rw [ocs_len, hk])
 have hno4 : no ≤ 4096 := by rw [hno]; have := List.countP_le_length (p := fun x => opn x.st) (l := z.l); unfold cntO; rw [← hl] at this ⊢; omega
 have hik : (i : Int) < (k : Int) := by omega
 clear hRL hk hmo hma hna hno hl hst hgd e1 e2 ho hi q1 q2
 by_cases hbad : st = 1 ∧ 0 < ma ∧ ma ≤ na
 ·obtain ⟨h1, h2, h3⟩ := hbad
  have hbad : st = 1 ∧ 0 < ma ∧ ma ≤ na := ⟨h1, h2, h3⟩
  have f0 : ((st : Int) != 1) = false := by simp; omega
  have f1 : ((ma : Int) == 0) = false := by simp; omega
  have f2 : decide (na < ma) = false := by simp; omega
  have f3 : decide ((na : Int) < (ma : Int)) = false := by simp; omega
  have hbad := Lib.hid hbad
  clear h1 h2 h3
  go_enter Try.func71, Try.ntmps71
  go_upto_region 0 with (fail)
  refine Ch.region' 27 (fun wx => Blk wx g RL 71 ∧ wx.cell? ⟨ga, oa + i * 3, none⟩ = some (iv st)) (fun | 19 => true | _ => false) (by kernel_rfl) (by decide +kernel) (⟨hs.drew.hold (.blk g 71 RL) (by simp), CST.out _ hs.drew⟩) ?_
  replace hs := hs.drew
  generalize w.drew = w at hs ⊢
  change Ch.CW _ _ _ _ _ [0, 1, 2, 3, 4, 5, 6, 7, 8, 9, 10, 11, 12, 13, 14, 15, 16, 17, 18, 19, 20, 21, 22, 23, 24, 25, 26] _ _
  iterate 19 ((first | (refine Ch.pure (v := ?_) (by rfl) (by rfl) (by rfl) (fun wx hS => ?_) ?_; rotate_left; (focus (go_simp; (first | done | with_reducible rfl)))) | refine Ch.pure (v := _) (by rfl) (by rfl) (by rfl) (fun wx hS => Se.xl rfl rfl (by rw [hS.1.cell]; exact R5.out) (by decide +kernel)) ?_ | refine Ch.pure (v := _) (by rfl) (by rfl) (by rfl) (fun wx hS => Se.xl rfl rfl (by rw [hS.1.cell]; exact R4.out) (by decide +kernel)) ?_ | refine Ch.pure (v := _) (by rfl) (by rfl) (by rfl) (fun wx hS => Se.xl rfl rfl (by rw [hS.1.cell]; exact R3.out) (by decide +kernel)) ?_ | refine Ch.pure (v := _) (by rfl) (by rfl) (by rfl) (fun wx hS => Se.xl rfl rfl hS.2 (by decide +kernel)) ?_); (try simp only [Act.put, List.setIfInBounds_toArray, List.set_cons_zero, List.set_cons_succ]))
  refine Ch.noise (by rfl) (by rfl) (by rfl) ?_
  refine Se.gcall (f := 31) (args := #[.pointer (some ⟨g, 0, none⟩)]) ?_ ?_
  ·go_simp
  refine Calls.mono (CAC.out _ hs) ?_
  clear hs
  rintro e w ⟨rfl, hs⟩
  refine ⟨_, rfl, ⟨hs.hold (.blk g 71 RL) (by simp), CST.out _ hs⟩, ?_⟩
  (try simp only [Act.put, List.setIfInBounds_toArray, List.set_cons_zero, List.set_cons_succ])
  iterate 7 ((first | (refine Ch.pure (v := ?_) (by rfl) (by rfl) (by rfl) (fun wx hS => ?_) ?_; rotate_left; (focus (go_simp; (first | done | with_reducible rfl)))) | refine Ch.pure (v := _) (by rfl) (by rfl) (by rfl) (fun wx hS => Se.xl rfl rfl (by rw [hS.1.cell]; exact R5.out) (by decide +kernel)) ?_ | refine Ch.pure (v := _) (by rfl) (by rfl) (by rfl) (fun wx hS => Se.xl rfl rfl (by rw [hS.1.cell]; exact R4.out) (by decide +kernel)) ?_ | refine Ch.pure (v := _) (by rfl) (by rfl) (by rfl) (fun wx hS => Se.xl rfl rfl (by rw [hS.1.cell]; exact R3.out) (by decide +kernel)) ?_ | refine Ch.pure (v := _) (by rfl) (by rfl) (by rfl) (fun wx hS => Se.xl rfl rfl hS.2 (by decide +kernel)) ?_); (try simp only [Act.put, List.setIfInBounds_toArray, List.set_cons_zero, List.set_cons_succ]))
  refine Ch.done ?_
  try simp only [List.drop_succ_cons, List.drop_zero]
  go_wp2_with (first | (go_at_call 36; refine Calls.mono (must_f hs 189 (by decide)) ?_; clear hs; rintro e w ⟨rfl, hs⟩))
  exact ⟨rfl, trivial, B189.out hbad.out _ hs⟩
 have hcase : (st ≠ 1) ∨ (st = 1 ∧ ma = 0) ∨ (st = 1 ∧ ma ≠ 0 ∧ na < ma) := by omega
 have hcase := Lib.hid hcase
 have hnb := Lib.hid hbad
 clear B189 hbad
 go_enter Try.func71, Try.ntmps71
 go_upto_region 0 with (fail)
 go_cut [4] (fun s4 wx => St w0 X (.blk g 71 RL :: .own 3 (some ga) (some ⟨ga, oa, none⟩) k cc (ocs l) :: L) wx)
 case first =>
  rcases hcase.out with hc | hc | hc
  ·have f0 : ((st : Int) != 1) = true := by simp; omega
   clear hc
   refine Ch.region' 28 (fun wx => Blk wx g RL 71 ∧ wx.cell? ⟨ga, oa + i * 3, none⟩ = some (iv st)) (fun | 19 => true | 27 => true | _ => false) (by kernel_rfl) (by decide +kernel) (⟨hs.drew.hold (.blk g 71 RL) (by simp), CST.out _ hs.drew⟩) ?_
   replace hs := hs.drew
   generalize w.drew = w at hs ⊢
   change Ch.CW _ _ _ _ _ [0, 1, 2, 3, 4, 5, 6, 7, 8, 9, 10, 11, 12, 13, 14, 15, 16, 17, 18, 19, 20, 21, 22, 23, 24, 25, 26, 27] _ _
   iterate 10 ((first | (refine Ch.pure (v := ?_) (by rfl) (by rfl) (by rfl) (fun wx hS => ?_) ?_; rotate_left; (focus (go_simp; (first | done | with_reducible rfl)))) | refine Ch.pure (v := _) (by rfl) (by rfl) (by rfl) (fun wx hS => Se.xl rfl rfl (by rw [hS.1.cell]; exact R5.out) (by decide +kernel)) ?_ | refine Ch.pure (v := _) (by rfl) (by rfl) (by rfl) (fun wx hS => Se.xl rfl rfl (by rw [hS.1.cell]; exact R4.out) (by decide +kernel)) ?_ | refine Ch.pure (v := _) (by rfl) (by rfl) (by rfl) (fun wx hS => Se.xl rfl rfl (by rw [hS.1.cell]; exact R3.out) (by decide +kernel)) ?_ | refine Ch.pure (v := _) (by rfl) (by rfl) (by rfl) (fun wx hS => Se.xl rfl rfl hS.2 (by decide +kernel)) ?_); (try simp only [Act.put, List.setIfInBounds_toArray, List.set_cons_zero, List.set_cons_succ]))
   iterate 6 (refine Ch.skip (by rfl) (by rfl) ?_; (try simp only [Act.put, List.setIfInBounds_toArray, List.set_cons_zero, List.set_cons_succ]))
   iterate 2 ((first | (refine Ch.pure (v := ?_) (by rfl) (by rfl) (by rfl) (fun wx hS => ?_) ?_; rotate_left; (focus (go_simp; (first | done | with_reducible rfl))))); (try simp only [Act.put, List.setIfInBounds_toArray, List.set_cons_zero, List.set_cons_succ]))
   iterate 8 (refine Ch.skip (by rfl) (by rfl) ?_; (try simp only [Act.put, List.setIfInBounds_toArray, List.set_cons_zero, List.set_cons_succ]))
   iterate 1 ((first | (refine Ch.pure (v := ?_) (by rfl) (by rfl) (by rfl) (fun wx hS => ?_) ?_; rotate_left; (focus (go_simp; (first | done | with_reducible rfl))))); (try simp only [Act.put, List.setIfInBounds_toArray, List.set_cons_zero, List.set_cons_succ]))
   refine Ch.noise (by rfl) (by rfl) (by rfl) ?_
   refine Se.gcall (f := 36) (args := #[.bool true, .int .u8 189]) ?_ ?_
   ·go_simp
   refine Calls.mono (must_t hs 189) ?_
   clear hs
   rintro e w ⟨rfl, hs⟩
   refine ⟨_, rfl, ⟨hs.hold (.blk g 71 RL) (by simp), CST.out _ hs⟩, ?_⟩
   (try simp only [Act.put, List.setIfInBounds_toArray, List.set_cons_zero, List.set_cons_succ])
   refine Ch.done ?_
   try simp only [List.drop_succ_cons, List.drop_zero]
   go_wp2_with fail
   go_meet
   exact hs
  ·have f0 : ((st : Int) != 1) = false := by simp; omega
   have f1 : ((ma : Int) == 0) = true := by simp; omega
   clear hc
   refine Ch.region' 28 (fun wx => Blk wx g RL 71 ∧ wx.cell? ⟨ga, oa + i * 3, none⟩ = some (iv st)) (fun | 19 => true | 27 => true | _ => false) (by kernel_rfl) (by decide +kernel) (⟨hs.drew.hold (.blk g 71 RL) (by simp), CST.out _ hs.drew⟩) ?_
   replace hs := hs.drew
   generalize w.drew = w at hs ⊢
   change Ch.CW _ _ _ _ _ [0, 1, 2, 3, 4, 5, 6, 7, 8, 9, 10, 11, 12, 13, 14, 15, 16, 17, 18, 19, 20, 21, 22, 23, 24, 25, 26, 27] _ _
   iterate 18 ((first | (refine Ch.pure (v := ?_) (by rfl) (by rfl) (by rfl) (fun wx hS => ?_) ?_; rotate_left; (focus (go_simp; (first | done | with_reducible rfl)))) | refine Ch.pure (v := _) (by rfl) (by rfl) (by rfl) (fun wx hS => Se.xl rfl rfl (by rw [hS.1.cell]; exact R5.out) (by decide +kernel)) ?_ | refine Ch.pure (v := _) (by rfl) (by rfl) (by rfl) (fun wx hS => Se.xl rfl rfl (by rw [hS.1.cell]; exact R4.out) (by decide +kernel)) ?_ | refine Ch.pure (v := _) (by rfl) (by rfl) (by rfl) (fun wx hS => Se.xl rfl rfl (by rw [hS.1.cell]; exact R3.out) (by decide +kernel)) ?_ | refine Ch.pure (v := _) (by rfl) (by rfl) (by rfl) (fun wx hS => Se.xl rfl rfl hS.2 (by decide +kernel)) ?_); (try simp only [Act.put, List.setIfInBounds_toArray, List.set_cons_zero, List.set_cons_succ]))
   iterate 8 (refine Ch.skip (by rfl) (by rfl) ?_; (try simp only [Act.put, List.setIfInBounds_toArray, List.set_cons_zero, List.set_cons_succ]))
   iterate 1 ((first | (refine Ch.pure (v := ?_) (by rfl) (by rfl) (by rfl) (fun wx hS => ?_) ?_; rotate_left; (focus (go_simp; (first | done | with_reducible rfl))))); (try simp only [Act.put, List.setIfInBounds_toArray, List.set_cons_zero, List.set_cons_succ]))
   refine Ch.noise (by rfl) (by rfl) (by rfl) ?_
   refine Se.gcall (f := 36) (args := #[.bool true, .int .u8 189]) ?_ ?_
   ·go_simp
   refine Calls.mono (must_t hs 189) ?_
   clear hs
   rintro e w ⟨rfl, hs⟩
   refine ⟨_, rfl, ⟨hs.hold (.blk g 71 RL) (by simp), CST.out _ hs⟩, ?_⟩
   (try simp only [Act.put, List.setIfInBounds_toArray, List.set_cons_zero, List.set_cons_succ])
   refine Ch.done ?_
   try simp only [List.drop_succ_cons, List.drop_zero]
   go_wp2_with fail
   go_meet
   exact hs
  ·have f0 : ((st : Int) != 1) = false := by simp; omega
   have f1 : ((ma : Int) == 0) = false := by simp; omega
   have f2 : decide (na < ma) = true := by simp; omega
   have f3 : decide ((na : Int) < (ma : Int)) = true := by simp; omega
   clear hc
   refine Ch.region' 28 (fun wx => Blk wx g RL 71 ∧ wx.cell? ⟨ga, oa + i * 3, none⟩ = some (iv st)) (fun | 19 => true | 27 => true | _ => false) (by kernel_rfl) (by decide +kernel) (⟨hs.drew.hold (.blk g 71 RL) (by simp), CST.out _ hs.drew⟩) ?_
   replace hs := hs.drew
   generalize w.drew = w at hs ⊢
   change Ch.CW _ _ _ _ _ [0, 1, 2, 3, 4, 5, 6, 7, 8, 9, 10, 11, 12, 13, 14, 15, 16, 17, 18, 19, 20, 21, 22, 23, 24, 25, 26, 27] _ _
   iterate 19 ((first | (refine Ch.pure (v := ?_) (by rfl) (by rfl) (by rfl) (fun wx hS => ?_) ?_; rotate_left; (focus (go_simp; (first | done | with_reducible rfl)))) | refine Ch.pure (v := _) (by rfl) (by rfl) (by rfl) (fun wx hS => Se.xl rfl rfl (by rw [hS.1.cell]; exact R5.out) (by decide +kernel)) ?_ | refine Ch.pure (v := _) (by rfl) (by rfl) (by rfl) (fun wx hS => Se.xl rfl rfl (by rw [hS.1.cell]; exact R4.out) (by decide +kernel)) ?_ | refine Ch.pure (v := _) (by rfl) (by rfl) (by rfl) (fun wx hS => Se.xl rfl rfl (by rw [hS.1.cell]; exact R3.out) (by decide +kernel)) ?_ | refine Ch.pure (v := _) (by rfl) (by rfl) (by rfl) (fun wx hS => Se.xl rfl rfl hS.2 (by decide +kernel)) ?_); (try simp only [Act.put, List.setIfInBounds_toArray, List.set_cons_zero, List.set_cons_succ]))
   refine Ch.noise (by rfl) (by rfl) (by rfl) ?_
   refine Se.gcall (f := 31) (args := #[.pointer (some ⟨g, 0, none⟩)]) ?_ ?_
   ·go_simp
   refine Calls.mono (CAC.out _ hs) ?_
   clear hs
   rintro e w ⟨rfl, hs⟩
   refine ⟨_, rfl, ⟨hs.hold (.blk g 71 RL) (by simp), CST.out _ hs⟩, ?_⟩
   (try simp only [Act.put, List.setIfInBounds_toArray, List.set_cons_zero, List.set_cons_succ])
   iterate 7 ((first | (refine Ch.pure (v := ?_) (by rfl) (by rfl) (by rfl) (fun wx hS => ?_) ?_; rotate_left; (focus (go_simp; (first | done | with_reducible rfl)))) | refine Ch.pure (v := _) (by rfl) (by rfl) (by rfl) (fun wx hS => Se.xl rfl rfl (by rw [hS.1.cell]; exact R5.out) (by decide +kernel)) ?_ | refine Ch.pure (v := _) (by rfl) (by rfl) (by rfl) (fun wx hS => Se.xl rfl rfl (by rw [hS.1.cell]; exact R4.out) (by decide +kernel)) ?_ | refine Ch.pure (v := _) (by rfl) (by rfl) (by rfl) (fun wx hS => Se.xl rfl rfl (by rw [hS.1.cell]; exact R3.out) (by decide +kernel)) ?_ | refine Ch.pure (v := _) (by rfl) (by rfl) (by rfl) (fun wx hS => Se.xl rfl rfl hS.2 (by decide +kernel)) ?_); (try simp only [Act.put, List.setIfInBounds_toArray, List.set_cons_zero, List.set_cons_succ]))
   refine Ch.noise (by rfl) (by rfl) (by rfl) ?_
   refine Se.gcall (f := 36) (args := #[.bool true, .int .u8 189]) ?_ ?_
   ·go_simp
   refine Calls.mono (must_t hs 189) ?_
   clear hs
   rintro e w ⟨rfl, hs⟩
   refine ⟨_, rfl, ⟨hs.hold (.blk g 71 RL) (by simp), CST.out _ hs⟩, ?_⟩
   (try simp only [Act.put, List.setIfInBounds_toArray, List.set_cons_zero, List.set_cons_succ])
   refine Ch.done ?_
   try simp only [List.drop_succ_cons, List.drop_zero]
   go_wp2_with fail
   go_meet
   exact hs
 case rest =>
 clear hs
 rename World => w
 have hs := hcut
 clear hcut hcase
 go_upto_region 1 with (fail)
 by_cases hm0 : mo = 0
 ·have f0 : ((mo : Int) == 0) = true := by simp; omega
  have HM0 := Lib.hid (show mo = 0 ∨ no < mo from .inl hm0)
  clear hm0
  refine Ch.region' 16 (fun wx => Blk wx g RL 71) (fun | 8 => true | _ => false) (by kernel_rfl) (by decide +kernel) (hs.drew.hold (.blk g 71 RL) (by simp)) ?_
  replace hs := hs.drew
  generalize w.drew = w at hs ⊢
  change Ch.CW _ _ _ _ _ [0, 1, 2, 3, 4, 5, 6, 7, 8, 9, 10, 11, 12, 13, 14, 15] _ _
  iterate 7 ((first | (refine Ch.pure (v := ?_) (by rfl) (by rfl) (by rfl) (fun wx hS => ?_) ?_; rotate_left; (focus (go_simp; (first | done | with_reducible rfl)))) | refine Ch.pure (v := _) (by rfl) (by rfl) (by rfl) (fun wx hS => Se.xl rfl rfl (by rw [hS.cell]; exact R3.out) (by decide +kernel)) ?_); (try simp only [Act.put, List.setIfInBounds_toArray, List.set_cons_zero, List.set_cons_succ]))
  iterate 8 (refine Ch.skip (by rfl) (by rfl) ?_; (try simp only [Act.put, List.setIfInBounds_toArray, List.set_cons_zero, List.set_cons_succ]))
  iterate 1 ((first | (refine Ch.pure (v := ?_) (by rfl) (by rfl) (by rfl) (fun wx hS => ?_) ?_; rotate_left; (focus (go_simp; (first | done | with_reducible rfl))))); (try simp only [Act.put, List.setIfInBounds_toArray, List.set_cons_zero, List.set_cons_succ]))
  refine Ch.done ?_
  try simp only [List.drop_succ_cons, List.drop_zero]
  go_wp2_with fail
  refine ⟨rfl, _, results_none rfl _ _ _, trivial, NOW.out hnb.out HM0.out _ hs⟩
 have f0 : ((mo : Int) == 0) = false := by simp; omega
 by_cases hm1 : no < mo
 ·have f2 : decide (no < mo) = true := by simpa using hm1
  have f3 : decide ((no : Int) < (mo : Int)) = true := by simp; omega
  have HM0 := Lib.hid (show mo = 0 ∨ no < mo from .inr hm1)
  clear hm0 hm1
  refine Ch.region' 16 (fun wx => Blk wx g RL 71) (fun | 8 => true | _ => false) (by kernel_rfl) (by decide +kernel) (hs.drew.hold (.blk g 71 RL) (by simp)) ?_
  replace hs := hs.drew
  generalize w.drew = w at hs ⊢
  change Ch.CW _ _ _ _ _ [0, 1, 2, 3, 4, 5, 6, 7, 8, 9, 10, 11, 12, 13, 14, 15] _ _
  iterate 8 ((first | (refine Ch.pure (v := ?_) (by rfl) (by rfl) (by rfl) (fun wx hS => ?_) ?_; rotate_left; (focus (go_simp; (first | done | with_reducible rfl)))) | refine Ch.pure (v := _) (by rfl) (by rfl) (by rfl) (fun wx hS => Se.xl rfl rfl (by rw [hS.cell]; exact R3.out) (by decide +kernel)) ?_); (try simp only [Act.put, List.setIfInBounds_toArray, List.set_cons_zero, List.set_cons_succ]))
  refine Ch.noise (by rfl) (by rfl) (by rfl) ?_
  refine Se.gcall (f := 30) (args := #[.pointer (some ⟨g, 0, none⟩)]) ?_ ?_
  ·go_simp
  refine Calls.mono (COC.out _ hs) ?_
  clear hs
  rintro e w ⟨rfl, hs⟩
  refine ⟨_, rfl, hs.hold (.blk g 71 RL) (by simp), ?_⟩
  (try simp only [Act.put, List.setIfInBounds_toArray, List.set_cons_zero, List.set_cons_succ])
  iterate 7 ((first | (refine Ch.pure (v := ?_) (by rfl) (by rfl) (by rfl) (fun wx hS => ?_) ?_; rotate_left; (focus (go_simp; (first | done | with_reducible rfl)))) | refine Ch.pure (v := _) (by rfl) (by rfl) (by rfl) (fun wx hS => Se.xl rfl rfl (by rw [hS.cell]; exact R3.out) (by decide +kernel)) ?_); (try simp only [Act.put, List.setIfInBounds_toArray, List.set_cons_zero, List.set_cons_succ]))
  refine Ch.done ?_
  try simp only [List.drop_succ_cons, List.drop_zero]
  go_wp2_with fail
  refine ⟨rfl, _, results_none rfl _ _ _, trivial, NOW.out hnb.out HM0.out _ hs⟩
 have f2 : decide (no < mo) = false := by simpa using hm1
 have f3 : decide ((no : Int) < (mo : Int)) = false := by simp; omega
 have HM0 := Lib.hid (show ¬ (mo = 0 ∨ no < mo) by omega)
 clear hm0 hm1 NOW
 refine Ch.region' 16 (fun wx => Blk wx g RL 71) (fun | 8 => true | _ => false) (by kernel_rfl) (by decide +kernel) (hs.drew.hold (.blk g 71 RL) (by simp)) ?_
 replace hs := hs.drew
 generalize w.drew = w at hs ⊢
 change Ch.CW _ _ _ _ _ [0, 1, 2, 3, 4, 5, 6, 7, 8, 9, 10, 11, 12, 13, 14, 15] _ _
 iterate 8 ((first | (refine Ch.pure (v := ?_) (by rfl) (by rfl) (by rfl) (fun wx hS => ?_) ?_; rotate_left; (focus (go_simp; (first | done | with_reducible rfl)))) | refine Ch.pure (v := _) (by rfl) (by rfl) (by rfl) (fun wx hS => Se.xl rfl rfl (by rw [hS.cell]; exact R3.out) (by decide +kernel)) ?_); (try simp only [Act.put, List.setIfInBounds_toArray, List.set_cons_zero, List.set_cons_succ]))
 refine Ch.noise (by rfl) (by rfl) (by rfl) ?_
 refine Se.gcall (f := 30) (args := #[.pointer (some ⟨g, 0, none⟩)]) ?_ ?_
 ·go_simp
 refine Calls.mono (COC.out _ hs) ?_
 clear hs
 rintro e w ⟨rfl, hs⟩
 refine ⟨_, rfl, hs.hold (.blk g 71 RL) (by simp), ?_⟩
 (try simp only [Act.put, List.setIfInBounds_toArray, List.set_cons_zero, List.set_cons_succ])
 iterate 7 ((first | (refine Ch.pure (v := ?_) (by rfl) (by rfl) (by rfl) (fun wx hS => ?_) ?_; rotate_left; (focus (go_simp; (first | done | with_reducible rfl)))) | refine Ch.pure (v := _) (by rfl) (by rfl) (by rfl) (fun wx hS => Se.xl rfl rfl (by rw [hS.cell]; exact R3.out) (by decide +kernel)) ?_); (try simp only [Act.put, List.setIfInBounds_toArray, List.set_cons_zero, List.set_cons_succ]))
 refine Ch.done ?_
 try simp only [List.drop_succ_cons, List.drop_zero]
 go_wp2_with (first | ((with_reducible refine Se.isL (o := ⟨some 54, _, _, _, _, _⟩) ?_); (refine Se.toL rfl (Se.ld (o := ⟨some 54, _, _, _, _, _⟩) hs rfl rfl (Cell.blk 0 rfl R5.out) (by kernel_rfl) ?_))))
 clear CAC COC CST f0 f2 f3
 go_loopg [4, 56] k (fun gh s4 s56 wr => ∃ j : Nat, gh = k - j ∧ j ≤ k ∧ s56 = .int .i64 (j : Int) ∧ s4 = .int .i64 (lv (leastN l j)) ∧ St w0 X (.blk g 71 RL :: .own 3 (some ga) (some ⟨ga, oa, none⟩) k cc (ocs l) :: L) wr)
 case atStart => exact ⟨0, rfl, Nat.zero_le _, rfl, rfl, hs⟩
 case round =>
  clear hs
  rename World => w
  obtain ⟨j, rfl, hj, rfl, rfl, hs⟩ := hrel
  by_cases hlt : j < k
  ·have hlt' : (j : Int) < (k : Int) := by omega
   have hjl : j < l.length := by have := HK.out; omega
   have HR := Lib.hid (row_at (L := (.blk g 71 RL :: .own 3 (some ga) (some ⟨ga, oa, none⟩) k cc (ocs l) :: L)) (Reads.own 1 rfl) hjl)
   have HG := Lib.hid (HGD.out j hjl)
   obtain ⟨x, hx⟩ : ∃ x, l[j] = x := ⟨_, rfl⟩
   rw [hx] at HR HG
   obtain ⟨O, hO⟩ : ∃ O, O = oc x := ⟨_, rfl⟩
   obtain ⟨sx, hsx⟩ : ∃ s, s = x.st := ⟨_, rfl⟩
   obtain ⟨rx, hrx⟩ : ∃ s, s = x.r := ⟨_, rfl⟩
   have OL := Lib.hid (show O.length = 3 by rw [hO]; rfl)
   have OO := Lib.hid (show ∀ v ∈ O, v.oneCell' = true by rw [hO]; exact oc_one x)
   have O0 := Lib.hid (show O[0]? = some (iv sx) by rw [hO, hsx]; rfl)
   have O2 := Lib.hid (show O[2]? = some (iv rx) by rw [hO, hrx]; rfl)
   have HLS : Hid (leastN l (j + 1) = match leastN l j with | none => (if sx = 2 then some j else none) | some m => (if sx = 2 ∧ rx < (l.getD m dz).r then some j else some m)) := Lib.hid (by rw [leastN, HG.out, hsx, hrx]; cases leastN l j <;> rfl)
   rw [← hO] at HR
   clear hx hO hsx hrx hjl
   go_upto_region 6 with (first | ((with_reducible refine Se.isL (o := ⟨some 60, _, _, _, _, _⟩) ?_); (refine Se.toL rfl (Se.ldw (o := ⟨some 60, _, _, _, _, _⟩) hs rfl rfl (HR.out) ((by rw [OL.out]; kernel_rfl)) (by kernel_rfl) ?_))) | ((with_reducible refine Se.isL (o := ⟨some 6, _, _, _, _, _⟩) ?_); (refine Se.toL rfl (Se.al (o := ⟨some 6, _, _, _, _, _⟩) hs rfl (zOne) ?_); clear hs; rintro w g6 - hs)) | ((with_reducible refine Se.isL (o := ⟨none, _, _, _, _, _⟩) ?_); (refine Se.toL rfl (Se.sow 0 hs rfl rfl rfl rfl (OO.out) ((by rw [OL.out]; kernel_rfl)) ((by rw [OL.out]; rfl)) ?_); clear hs; intro w hs; try simp only [List.cons_append, List.nil_append, List.set_cons_zero] at hs)))
   by_cases hs2 : sx = 2
   rotate_left
   ·have f0 : ((sx : Int) == 2) = false := by simp; omega
    have HE := Lib.hid (show leastN l (j + 1) = leastN l j by rw [HLS.out]; cases leastN l j <;> simp [hs2])
    clear hs2 HLS
    refine Ch.region' 20 (fun wx => Blk wx g RL 71 ∧ Blk wx g6 O 80) (fun  | _ => false) (by kernel_rfl) (by decide +kernel) (⟨hs.drew.hold (.blk g 71 RL) (by simp), hs.drew.hold (.blk g6 80 O) (by simp)⟩) ?_
    replace hs := hs.drew
    generalize w.drew = w at hs ⊢
    change Ch.CW _ _ _ _ _ [0, 1, 2, 3, 4, 5, 6, 7, 8, 9, 10, 11, 12, 13, 14, 15, 16, 17, 18, 19] _ _
    iterate 4 ((first | (refine Ch.pure (v := ?_) (by rfl) (by rfl) (by rfl) (fun wx hS => ?_) ?_; rotate_left; (focus (go_simp; (first | done | with_reducible rfl)))) | refine Ch.pure (v := _) (by rfl) (by rfl) (by rfl) (fun wx hS => Se.xl rfl rfl (by rw [hS.1.cell]; exact R5.out) (by decide +kernel)) ?_ | refine Ch.pure (v := _) (by rfl) (by rfl) (by rfl) (fun wx hS => Se.xl rfl rfl (by rw [hS.2.cell]; exact O0.out) (by decide +kernel)) ?_ | refine Ch.pure (v := _) (by rfl) (by rfl) (by rfl) (fun wx hS => Se.xl rfl rfl (by rw [hS.2.cell]; exact O2.out) (by decide +kernel)) ?_); (try simp only [Act.put, List.setIfInBounds_toArray, List.set_cons_zero, List.set_cons_succ]))
    iterate 15 (refine Ch.skip (by rfl) (by rfl) ?_; (try simp only [Act.put, List.setIfInBounds_toArray, List.set_cons_zero, List.set_cons_succ]))
    iterate 1 ((first | (refine Ch.pure (v := ?_) (by rfl) (by rfl) (by rfl) (fun wx hS => ?_) ?_; rotate_left; (focus (go_simp; (first | done | with_reducible rfl))))); (try simp only [Act.put, List.setIfInBounds_toArray, List.set_cons_zero, List.set_cons_succ]))
    refine Ch.done ?_
    try simp only [List.drop_succ_cons, List.drop_zero]
    go_wp2_with fail
    go_roundg (k - (j + 1))
    case measure => omega
    case rel => exact ⟨j + 1, rfl, by omega, by go_num, by rw [HE.out], hs.drop⟩
   have f0 : ((sx : Int) == 2) = true := by simp; omega
   cases hle : leastN l j with
   | none =>
    have HE := Lib.hid (show leastN l (j + 1) = some j by rw [HLS.out, hle]; simp [hs2])
    clear hs2 HLS hle
    simp only [lv]
    refine Ch.region' 20 (fun wx => Blk wx g RL 71 ∧ Blk wx g6 O 80) (fun  | _ => false) (by kernel_rfl) (by decide +kernel) (⟨hs.drew.hold (.blk g 71 RL) (by simp), hs.drew.hold (.blk g6 80 O) (by simp)⟩) ?_
    replace hs := hs.drew
    generalize w.drew = w at hs ⊢
    change Ch.CW _ _ _ _ _ [0, 1, 2, 3, 4, 5, 6, 7, 8, 9, 10, 11, 12, 13, 14, 15, 16, 17, 18, 19] _ _
    iterate 7 ((first | (refine Ch.pure (v := ?_) (by rfl) (by rfl) (by rfl) (fun wx hS => ?_) ?_; rotate_left; (focus (go_simp; (first | done | with_reducible rfl)))) | refine Ch.pure (v := _) (by rfl) (by rfl) (by rfl) (fun wx hS => Se.xl rfl rfl (by rw [hS.1.cell]; exact R5.out) (by decide +kernel)) ?_ | refine Ch.pure (v := _) (by rfl) (by rfl) (by rfl) (fun wx hS => Se.xl rfl rfl (by rw [hS.2.cell]; exact O0.out) (by decide +kernel)) ?_ | refine Ch.pure (v := _) (by rfl) (by rfl) (by rfl) (fun wx hS => Se.xl rfl rfl (by rw [hS.2.cell]; exact O2.out) (by decide +kernel)) ?_); (try simp only [Act.put, List.setIfInBounds_toArray, List.set_cons_zero, List.set_cons_succ]))
    iterate 11 (refine Ch.skip (by rfl) (by rfl) ?_; (try simp only [Act.put, List.setIfInBounds_toArray, List.set_cons_zero, List.set_cons_succ]))
    iterate 2 ((first | (refine Ch.pure (v := ?_) (by rfl) (by rfl) (by rfl) (fun wx hS => ?_) ?_; rotate_left; (focus (go_simp; (first | done | with_reducible rfl))))); (try simp only [Act.put, List.setIfInBounds_toArray, List.set_cons_zero, List.set_cons_succ]))
    refine Ch.done ?_
    try simp only [List.drop_succ_cons, List.drop_zero]
    go_wp2_with fail
    go_roundg (k - (j + 1))
    case measure => omega
    case rel => exact ⟨j + 1, rfl, by omega, by go_num, by rw [HE.out]; rfl, hs.drop⟩
   | some m =>
    have hmj := leastN_lt l j m hle
    have hml : m < l.length := by have := HK.out; omega
    have hgm := HGD.out m hml
    obtain ⟨rm, hrm⟩ : ∃ s, s = (l.getD m dz).r := ⟨_, rfl⟩
    have CRM : Hid (∀ w, St w0 X (.blk g6 80 O :: (.blk g 71 RL :: .own 3 (some ga) (some ⟨ga, oa, none⟩) k cc (ocs l) :: L)) w → w.cell? ⟨ga, oa + m * 3 + 2, none⟩ = some (iv rm)) := Lib.hid (fun w hs => by
     have h := ocs_at l m hml 2 (by decide)
     have h2 := ((Reads.own 2 rfl).cell (m * 3 + 2) (v := iv rm) (by rw [h, hrm, hgm]; rfl)) w hs.hold
     rw [← Nat.add_assoc] at h2
     exact h2)
    have HLS2 := HLS.out
    rw [hle] at HLS2
    dsimp only at HLS2
    rw [← hrm] at HLS2
    have hmk : (m : Int) < (k : Int) := by omega
    have hm0 : decide ((m : Int) < 0) = false := by rw [decide_eq_false_iff_not]; omega
    have hm00 : ¬ (m : Int) < 0 := by omega
    by_cases hrr : rx < rm
    ·have f2 : decide (rx < rm) = true := by simpa using hrr
     have f3 : decide ((rx : Int) < (rm : Int)) = true := by simp; omega
     have HE := Lib.hid (show leastN l (j + 1) = some j by rw [HLS2]; simp [hs2, hrr])
     clear hs2 HLS HLS2 hle hrm hrr hgm hml hmj
     simp only [lv]
     refine Ch.region' 20 (fun wx => (Blk wx g RL 71 ∧ Blk wx g6 O 80) ∧ wx.cell? ⟨ga, oa + m * 3 + 2, none⟩ = some (iv rm)) (fun  | _ => false) (by kernel_rfl) (by decide +kernel) (⟨⟨hs.drew.hold (.blk g 71 RL) (by simp), hs.drew.hold (.blk g6 80 O) (by simp)⟩, CRM.out _ hs.drew⟩) ?_
     replace hs := hs.drew
     generalize w.drew = w at hs ⊢
     change Ch.CW _ _ _ _ _ [0, 1, 2, 3, 4, 5, 6, 7, 8, 9, 10, 11, 12, 13, 14, 15, 16, 17, 18, 19] _ _
     iterate 20 ((first | (refine Ch.pure (v := ?_) (by rfl) (by rfl) (by rfl) (fun wx hS => ?_) ?_; rotate_left; (focus (go_simp; (first | done | with_reducible rfl)))) | refine Ch.pure (v := _) (by rfl) (by rfl) (by rfl) (fun wx hS => Se.xl rfl rfl (by rw [hS.1.1.cell]; exact R5.out) (by decide +kernel)) ?_ | refine Ch.pure (v := _) (by rfl) (by rfl) (by rfl) (fun wx hS => Se.xl rfl rfl (by rw [hS.1.2.cell]; exact O0.out) (by decide +kernel)) ?_ | refine Ch.pure (v := _) (by rfl) (by rfl) (by rfl) (fun wx hS => Se.xl rfl rfl (by rw [hS.1.2.cell]; exact O2.out) (by decide +kernel)) ?_ | refine Ch.pure (v := _) (by rfl) (by rfl) (by rfl) (fun wx hS => Se.xl rfl rfl hS.2 (by decide +kernel)) ?_); (try simp only [Act.put, List.setIfInBounds_toArray, List.set_cons_zero, List.set_cons_succ]))
     refine Ch.done ?_
     try simp only [List.drop_succ_cons, List.drop_zero]
     go_wp2_with fail
     go_roundg (k - (j + 1))
     case measure => omega
     case rel => exact ⟨j + 1, rfl, by omega, by go_num, by rw [HE.out]; rfl, hs.drop⟩
    ·have f2 : decide (rx < rm) = false := by simpa using hrr
     have f3 : decide ((rx : Int) < (rm : Int)) = false := by simp; omega
     have HE := Lib.hid (show leastN l (j + 1) = some m by rw [HLS2]; simp [hrr])
     clear hs2 HLS HLS2 hle hrm hrr hgm hml hmj
     simp only [lv]
     refine Ch.region' 20 (fun wx => (Blk wx g RL 71 ∧ Blk wx g6 O 80) ∧ wx.cell? ⟨ga, oa + m * 3 + 2, none⟩ = some (iv rm)) (fun  | _ => false) (by kernel_rfl) (by decide +kernel) (⟨⟨hs.drew.hold (.blk g 71 RL) (by simp), hs.drew.hold (.blk g6 80 O) (by simp)⟩, CRM.out _ hs.drew⟩) ?_
     replace hs := hs.drew
     generalize w.drew = w at hs ⊢
     change Ch.CW _ _ _ _ _ [0, 1, 2, 3, 4, 5, 6, 7, 8, 9, 10, 11, 12, 13, 14, 15, 16, 17, 18, 19] _ _
     iterate 20 ((first | (refine Ch.pure (v := ?_) (by rfl) (by rfl) (by rfl) (fun wx hS => ?_) ?_; rotate_left; (focus (go_simp; (first | done | with_reducible rfl)))) | refine Ch.pure (v := _) (by rfl) (by rfl) (by rfl) (fun wx hS => Se.xl rfl rfl (by rw [hS.1.1.cell]; exact R5.out) (by decide +kernel)) ?_ | refine Ch.pure (v := _) (by rfl) (by rfl) (by rfl) (fun wx hS => Se.xl rfl rfl (by rw [hS.1.2.cell]; exact O0.out) (by decide +kernel)) ?_ | refine Ch.pure (v := _) (by rfl) (by rfl) (by rfl) (fun wx hS => Se.xl rfl rfl (by rw [hS.1.2.cell]; exact O2.out) (by decide +kernel)) ?_ | refine Ch.pure (v := _) (by rfl) (by rfl) (by rfl) (fun wx hS => Se.xl rfl rfl hS.2 (by decide +kernel)) ?_); (try simp only [Act.put, List.setIfInBounds_toArray, List.set_cons_zero, List.set_cons_succ]))
     refine Ch.done ?_
     try simp only [List.drop_succ_cons, List.drop_zero]
     go_wp2_with fail
     go_roundg (k - (j + 1))
     case measure => omega
     case rel => exact ⟨j + 1, rfl, by omega, by go_num, by rw [HE.out]; rfl, hs.drop⟩
  ·obtain rfl : j = k := by omega
   cases hle : leastN l j with
   | none =>
    have HB := Lib.hid (B190.out hnb.out HM0.out hle)
    clear LEA hle B190
    simp only [lv]
    go_wp2_with (first | (go_at_call 36; refine Calls.mono (must_f hs 190 (by decide)) ?_; clear hs; rintro e w ⟨rfl, hs⟩))
    exact ⟨rfl, trivial, HB.out _ hs⟩
   | some m =>
    have hmj := leastN_lt l j m hle
    have HB := Lib.hid (LEA.out hnb.out HM0.out m hle)
    have hmk : (m : Int) < (j : Int) := by omega
    have hm0 : decide ((0 : Int) ≤ (m : Int)) = true := by simp
    have HSL := Lib.hid (show m * 3 < (ocs l).length by rw [HLN.out]; omega)
    clear B190 LEA hle hmj
    simp only [lv]
    go_wp2_with (first | ((with_reducible refine Se.isL (o := ⟨some 89, _, _, _, _, _⟩) ?_); (refine Se.toL rfl (Se.ld (o := ⟨some 89, _, _, _, _, _⟩) hs rfl rfl (Cell.blk 0 rfl R5.out) (by kernel_rfl) ?_))) | ((with_reducible refine Se.isL (o := ⟨none, _, _, _, _, _⟩) ?_); ((first | refine Se.toL rfl (Se.soo 1 (v := .int _ _) hs rfl rfl rfl rfl rfl (by kernel_rfl) (HSL.out) ?_) | refine Se.toL rfl (Se.soo 1 (v := .bool _) hs rfl rfl rfl rfl rfl (by kernel_rfl) (HSL.out) ?_) | refine Se.toL rfl (Se.soo 1 (v := .slice _ _ _) hs rfl rfl rfl rfl rfl (by kernel_rfl) (HSL.out) ?_) | refine Se.toL rfl (Se.soo 1 (v := .pointer _) hs rfl rfl rfl rfl rfl (by kernel_rfl) (HSL.out) ?_) | refine Se.toL rfl (Se.soo 1 (v := .string _) hs rfl rfl rfl rfl rfl (by kernel_rfl) (HSL.out) ?_) | refine Se.toL rfl (Se.soo 1 (v := .map _) hs rfl rfl rfl rfl rfl (by kernel_rfl) (HSL.out) ?_) | refine Se.toL rfl (Se.soo 1 (v := .func _ _ _) hs rfl rfl rfl rfl rfl (by kernel_rfl) (HSL.out) ?_) | refine Se.toL rfl (Se.soo 1 (v := .nilFunc) hs rfl rfl rfl rfl rfl (by kernel_rfl) (HSL.out) ?_)); clear hs; intro w hs; try simp only [List.cons_append, List.nil_append, List.set_cons_zero, List.set_cons_succ] at hs)) | (go_at_call 36; refine Calls.mono (must_t hs 190) ?_; clear hs; rintro e w ⟨rfl, hs⟩))
    go_end0
    first | exact HB.out _ hs | exact ⟨trivial, HB.out _ hs⟩
end Zo
end Go.Proofs.Ythpgkkfahiglnaa


/- Layer 36: Next of the program. No condition but Go's own limits. -/
import Derived.Test.YtdngfcmakjlamaaStrComp
set_option linter.unusedSimpArgs false
set_option linter.unusedVariables false
namespace Go.Proofs.Ytdngfcmakjlamaa
open Go Go.RowKit
namespace Sr
open Pd (Fm PDU meas dec framed pc iv fl fv)
open Se (St At Reads Cell)
open Li (v8 v8_one Rd Blk Fr)
open Bv (n8 n16 n32 n64)
variable {w0 w : World} {X : List Nat} {L : List At} {s s' : Rc} {g c : Nat} {B : Option Addr} {r : Option Nat}
attribute [local irreducible] Calls
set_option maxRecDepth 100000 in
set_option maxHeartbeats 4000000 in
theorem complete_st (hs : St w0 X L w) (g g3 : Nat) : Calls Try.prog 44 #[.pointer (some ⟨g, 0, none⟩), .pointer (some ⟨g3, 0, none⟩)] w fun e w' => ∃ b1 b2, e = .returned (.func (.func 60) #[] #[.pointer (some ⟨b1, 0, none⟩), .pointer (some ⟨b2, 0, none⟩)]) ∧ St w0 X (.blk b1 26 [.pointer (some ⟨g, 0, none⟩)] :: .blk b2 87 [.pointer (some ⟨g3, 0, none⟩)] :: L) w' := by
 go_enter Try.func44, Try.ntmps44
 go_wp2_with (first | ((first | with_reducible refine Se.ab hs ?_ | with_reducible refine Se.abc hs ?_); clear hs; (first | ((fail_if_success (have _q := b1)); generalize w.heap.size = b1; intro w hs) | (generalize w.heap.size = b2; intro w hs))))
 go_ret
 exact ⟨b1, b2, rfl, hs.perm (List.Perm.swap _ _ _)⟩
theorem zE : (Try.prog.info? 27).bind (fun i => i.zero.map (·.cells.toList)) = some [iv 0] := by kernel_rfl
set_option maxRecDepth 100000 in
set_option maxRecDepth 100000 in
set_option maxHeartbeats 4000000 in
theorem next_st (hs : St w0 X (pR g s B c :: pO r B c s :: L) w) (hmo : s.mo ≠ 0) (hl : s.b.length ≤ 4194304) (hnb : s.nb + s.b.length ≤ 70368744177664) (hnp : s.np ≤ 70368744177664) {p : PDU} {e : Nat} (hr : nextE s = (s', p, e)) :
  Calls Try.prog 19 #[.pointer (some ⟨g, 0, none⟩)] w fun e' w' => ∃ r1 EA ec r2 DA dc PC r' B' c', e' = .returned (.tuple #[.agg PC.toArray, iv e]) ∧ Hid (PC = pc p.h EA p.en.length ec DA p.da.length dc) ∧ St w0 X (.own 1 r1 EA p.en.length ec (p.en.map v8) :: .own 1 r2 DA p.da.length dc (p.da.map v8) :: pR g s' B' c' :: pO r' B' c' s' :: L) w' := by
 obtain ⟨Z, hZ⟩ : ∃ Z, Z = pc {} none 0 0 none 0 0 := ⟨_, rfl⟩
 have ZL := Lib.hid (show Z.length = 14 by rw [hZ]; rfl)
 have ZO := Lib.hid (show ∀ v ∈ Z, v.oneCell' = true by rw [hZ]; exact Pd.pc_one _ _ _ _ _ _ _)
 have HZ : Hid ((Try.prog.info? 41).bind (fun i => i.zero.map (·.cells.toList)) = some Z) := Lib.hid (by rw [hZ]; exact zP0)
 have HZE := Lib.hid hZ
 obtain ⟨ee, hee⟩ : ∃ ee, s.e = ee := ⟨_, rfl⟩
 have CR : Hid (∀ (w : World) (M : List At), St w0 X (M ++ pR g s B c :: pO r B c s :: L) w → Calls Try.prog 30 #[.pointer (some ⟨g, 0, none⟩)] w fun e w' => e = .returned (iv ee) ∧ St w0 X (M ++ pR g s B c :: pO r B c s :: L) w') := Lib.hid (fun w M hs => by
  refine (ready_st (hs.perm List.perm_middle) hmo).mono ?_
  rintro e w' ⟨rfl, hs⟩
  exact ⟨by rw [hee], hs.perm List.perm_middle.symm⟩)
 clear hZ
 unfold nextE at hr
 by_cases h0 : ee = 0
 rotate_left
 ·rw [if_pos (by rw [hee]; exact h0), hee] at hr
  cases hr
  have e1 := (int_ne h0).1
  clear hee h0 hmo hl hnb hnp
  refine Se.enterM Try.func19 rfl ?_
  simp only [Try.ntmps19, List.size_toArray, List.length_cons, List.length_nil, Nat.reduceAdd, Nat.reduceSub, Array.replicate_succ, Array.replicate_zero, List.push_toArray, List.append_toArray, List.nil_append, List.cons_append]
  go_upto_region 1 with (first | ((with_reducible refine Se.isL (o := ⟨some 2, _, _, _, _, _⟩) ?_); (refine Se.toL rfl (Se.al (o := ⟨some 2, _, _, _, _, _⟩) hs rfl (HZ.out) ?_); clear hs; rintro w g2 - hs)) | ((with_reducible refine Se.isL (o := ⟨some 3, _, _, _, _, _⟩) ?_); (refine Se.toL rfl (Se.al (o := ⟨some 3, _, _, _, _, _⟩) hs rfl (zE) ?_); clear hs; rintro w g3 - hs)))
  refine wp_scope_straight ?_
  go_wp2_with (first | ((with_reducible refine Se.isL (o := ⟨some 10, _, _, _, _, _⟩) ?_); (refine Se.toL rfl (Se.ldw (o := ⟨some 10, _, _, _, _, _⟩) hs rfl rfl ((Reads.blk 1 rfl)) ((by rw [ZL.out]; kernel_rfl)) (by kernel_rfl) ?_))) | ((with_reducible refine Se.isL (o := ⟨none, _, _, _, _, _⟩) ?_); (refine Se.toL rfl (Se.sow 1 hs rfl rfl rfl rfl (ZO.out) ((by rw [ZL.out]; kernel_rfl)) ((by rw [ZL.out])) ?_); clear hs; intro w hs; try simp only [List.cons_append, List.nil_append, List.set_cons_zero, List.set_cons_succ] at hs)) | ((with_reducible refine Se.isL (o := ⟨none, _, _, _, _, _⟩) ?_); ((first | refine Se.toL rfl (Se.so 0 (v := .int _ _) hs rfl rfl rfl rfl rfl (by kernel_rfl) (by simp) ?_) | refine Se.toL rfl (Se.so 0 (v := .bool _) hs rfl rfl rfl rfl rfl (by kernel_rfl) (by simp) ?_) | refine Se.toL rfl (Se.so 0 (v := .slice _ _ _) hs rfl rfl rfl rfl rfl (by kernel_rfl) (by simp) ?_) | refine Se.toL rfl (Se.so 0 (v := .pointer _) hs rfl rfl rfl rfl rfl (by kernel_rfl) (by simp) ?_) | refine Se.toL rfl (Se.so 0 (v := .string _) hs rfl rfl rfl rfl rfl (by kernel_rfl) (by simp) ?_) | refine Se.toL rfl (Se.so 0 (v := .map _) hs rfl rfl rfl rfl rfl (by kernel_rfl) (by simp) ?_) | refine Se.toL rfl (Se.so 0 (v := .func _ _ _) hs rfl rfl rfl rfl rfl (by kernel_rfl) (by simp) ?_) | refine Se.toL rfl (Se.so 0 (v := .nilFunc) hs rfl rfl rfl rfl rfl (by kernel_rfl) (by simp) ?_)); clear hs; intro w hs; try simp only [List.cons_append, List.nil_append, List.set_cons_zero] at hs)) | (go_at_call 30; refine Calls.mono (CR.out _ [_, _] hs) ?_; clear hs; rintro e w ⟨rfl, hs⟩))
  simp only [Exit.noGoto_ret]
  refine Se.leave0 (v := .tuple #[.agg Z.toArray, iv e]) ?_ ?_
  ·exact Se.run_results_rc hs rfl rfl (Reads.blk 1 rfl) (by kernel_rfl) (by rw [ZL.out] <;> kernel_rfl) rfl (Cell.blk 0 rfl rfl) (by kernel_rfl)
  exact ⟨none, none, 0, none, none, 0, Z, r, B, c, rfl, HZE, (hs.drop.drop.nil_own 1 none).nil_own 1 none⟩
 subst h0
 rw [if_neg (by simpa using hee)] at hr
 obtain ⟨⟨p2, n, e2⟩, ht⟩ : ∃ x, takeE s = x := ⟨_, rfl⟩
 rw [ht] at hr
 have HSeq := fun b1 b2 g3 => Lib.hid (comp_seq (w0 := w0) (X := X) (B := B) (c := c) (r := r) (g := g) b1 b2 g3 0 ht hl hnb hnp)
 have HR : Hid ((e2 = 9 → s' = s ∧ p = {} ∧ e = 9) ∧ (e2 ≠ 9 → e2 ≠ 0 → s' = { s with e := e2, b := [] } ∧ p = {} ∧ e = e2) ∧ (e2 = 0 → s' = eat s n ∧ p = p2 ∧ e = 0)) := Lib.hid (by
  refine ⟨fun h => ?_, fun h h' => ?_, fun h => ?_⟩
  ·subst h; cases hr; exact ⟨rfl, rfl, rfl⟩
  ·dsimp only at hr
   rw [if_neg h, if_pos h'] at hr
   cases hr; exact ⟨rfl, rfl, rfl⟩
  ·subst h; cases hr; exact ⟨rfl, rfl, rfl⟩)
 have HRE : Hid (∀ (a : Nat), ((rcl s B c).set 5 (iv a)).set 4 (.slice none 0 0) = rcl { s with e := a, b := [] } none 0) := Lib.hid (fun a => rfl)
 clear hr ht hee hmo hl hnb hnp
 refine Se.enterM Try.func19 rfl ?_
 simp only [Try.ntmps19, List.size_toArray, List.length_cons, List.length_nil, Nat.reduceAdd, Nat.reduceSub, Array.replicate_succ, Array.replicate_zero, List.push_toArray, List.append_toArray, List.nil_append, List.cons_append]
 go_upto_region 1 with (first | ((with_reducible refine Se.isL (o := ⟨some 2, _, _, _, _, _⟩) ?_); (refine Se.toL rfl (Se.al (o := ⟨some 2, _, _, _, _, _⟩) hs rfl (HZ.out) ?_); clear hs; rintro w g2 - hs)) | ((with_reducible refine Se.isL (o := ⟨some 3, _, _, _, _, _⟩) ?_); (refine Se.toL rfl (Se.al (o := ⟨some 3, _, _, _, _, _⟩) hs rfl (zE) ?_); clear hs; rintro w g3 - hs)))
 refine wp_scope_straight ?_
 go_wp2_with (first | (go_at_call 30; refine Calls.mono (CR.out _ [_, _] hs) ?_; clear hs; rintro e w ⟨rfl, hs⟩))
 go_step3
 go_wp2_with (first | (go_at_call 44; refine Calls.mono (complete_st hs g g3) ?_; clear hs; rintro e w ⟨b1, b2, rfl, hs⟩))
 have hs2 : St w0 X ([.blk g2 41 Z] ++ (compM b1 b2 g g3 s B c r 0 ++ L)) w := by
  replace hs := hs.pull 2 rfl
  replace hs := hs.pull 5 rfl
  replace hs := hs.pull 5 rfl
  replace hs := hs.pull 4 rfl
  replace hs := hs.pull 4 rfl
  replace hs := hs.pull 5 rfl
  simp only [List.eraseIdx_cons_succ, List.eraseIdx_cons_zero] at hs
  exact hs
 clear hs
 refine Se.rangeOne (lb := #[.pointer (some ⟨b1, 0, none⟩), .pointer (some ⟨b2, 0, none⟩)]) hs2 rfl (Go.Proofs.enters_of Try.func60 (by kernel_rfl) rfl) (HSeq b1 b2 g3).out
  (by rintro x M1 ⟨_, r1, EA, ec, r2, DA, dc, PC, r', B', c', rfl, _, _⟩; rfl)
  (fun cd x M1 L' => cd = .exit 0 ∧ ∃ PC g5, x = #[.agg PC.toArray, iv n] ∧ L' = [.blk g5 41 PC, .blk g2 41 PC]) ?_ ?_ ?_
 ·rintro l x M1 w T ⟨_, r1, EA, ec, r2, DA, dc, PC, r', B', c', rfl, HPC, _⟩ hs
  have PCL := Lib.hid (pcl PC HPC.out).1
  have PCO := Lib.hid (pcl PC HPC.out).2
  simp only [List.cons_append, List.nil_append] at hs
  rw [Se.zip2]
  simp only [List.setIfInBounds_toArray, List.set_cons_zero, List.set_cons_succ]
  repeat (first | refine wpIn_block ?_ | refine wpIn_seq ?_)
  refine Se.regI (by repeat (first | exact Se.roundSt_out | exact Se.falsePost_out | refine Se.then_out ?_ | refine Se.block_out ?_)) (by rfl) ?_
  go_wp2_with (first | ((with_reducible refine Se.isL (o := ⟨some 5, _, _, _, _, _⟩) ?_); (refine Se.toL rfl (Se.al (o := ⟨some 5, _, _, _, _, _⟩) hs rfl (HZ.out) ?_); clear hs; rintro w g5 - hs)) | ((with_reducible refine Se.isL (o := ⟨none, _, _, _, _, _⟩) ?_); (refine Se.toL rfl (Se.sow 0 hs rfl rfl rfl rfl (PCO.out) ((by rw [PCL.out]; kernel_rfl)) ((by rw [PCL.out, ZL.out])) ?_); clear hs; intro w hs; try simp only [List.cons_append, List.nil_append, List.set_cons_zero] at hs)))
  (try simp only [Exit.then])
  refine ⟨[.blk g5 41 PC, .blk g2 41 Z], hs, ?_⟩
  clear hs
  clear w T
  intro w T hs
  simp only [List.cons_append, List.nil_append] at hs
  repeat (first | refine wpIn_block ?_ | refine wpIn_seq ?_)
  refine Se.regI (by repeat (first | exact Se.roundSt_out | exact Se.falsePost_out | refine Se.then_out ?_ | refine Se.block_out ?_)) (by rfl) ?_
  go_wp2_with (first | ((with_reducible refine Se.isL (o := ⟨some 16, _, _, _, _, _⟩) ?_); (refine Se.toL rfl (Se.ldw (o := ⟨some 16, _, _, _, _, _⟩) hs rfl rfl ((Reads.blk 0 rfl)) ((by rw [PCL.out]; kernel_rfl)) (by kernel_rfl) ?_))) | ((with_reducible refine Se.isL (o := ⟨none, _, _, _, _, _⟩) ?_); (refine Se.toL rfl (Se.sow 1 hs rfl rfl rfl rfl (PCO.out) ((by rw [PCL.out]; kernel_rfl)) ((by rw [PCL.out, ZL.out])) ?_); clear hs; intro w hs; try simp only [List.cons_append, List.nil_append, List.set_cons_zero, List.set_cons_succ] at hs)))
  (try simp only [Exit.then])
  refine wpIn_exit ?_
  exact ⟨_, ⟨rfl, PC, g5, rfl, rfl⟩, hs⟩
 ·rintro Dd w hY0 hs
  simp only [compM, pR, pO, List.cons_append, List.nil_append] at hs
  simp only [Exit.inBlock, Exit.then]
  go_at_K
  by_cases h9 : e2 = 9
  ·subst h9
   obtain ⟨rfl, rfl, rfl⟩ := HR.out.1 rfl
   go_upto_region 9 with (first | ((with_reducible refine Se.isL (o := ⟨some 17, _, _, _, _, _⟩) ?_); (refine Se.toL rfl (Se.ld (o := ⟨some 17, _, _, _, _, _⟩) hs rfl rfl (Cell.blk 5 rfl rfl) (by kernel_rfl) ?_))) | ((with_reducible refine Se.isL (o := ⟨some 20, _, _, _, _, _⟩) ?_); (refine Se.toL rfl (Se.ld (o := ⟨some 20, _, _, _, _, _⟩) hs rfl rfl (Cell.blk 5 rfl rfl) (by kernel_rfl) ?_))))
   refine Ch.region' 4 (fun wx => Blk wx g2 Z 41 ∧ Blk wx g3 [iv 9] 27) (fun | 2 => true | 3 => true | _ => false) (by kernel_rfl) (by decide +kernel) (⟨hs.drew.hold (.blk g2 41 Z) (by simp), hs.drew.hold (.blk g3 27 [iv 9]) (by simp)⟩) ?_
   replace hs := hs.drew
   generalize w.drew = w at hs ⊢
   change Ch.CW _ _ _ _ _ [0, 1, 2, 3] _ _
   iterate 2 ((first | (refine Ch.pure (v := ?_) (by rfl) (by rfl) (by rfl) (fun wx hS => ?_) ?_; rotate_left; (focus (go_simp; (first | done | with_reducible rfl)))) | refine Ch.pure (v := _) (by rfl) (by rfl) (by rfl) (fun wx hS => Se.xla rfl rfl (Li.Rd.of_blk hS.1) (by rw [ZL.out] <;> kernel_rfl) (by kernel_rfl)) ?_ | refine Ch.pure (v := _) (by rfl) (by rfl) (by rfl) (fun wx hS => Se.xl rfl rfl (by rw [hS.2.cell]; rfl) (by decide +kernel)) ?_); (try simp only [Act.put, List.setIfInBounds_toArray, List.set_cons_zero, List.set_cons_succ]))
   refine Ch.noise (by rfl) (by rfl) (by rfl) (Se.sow 0 (vs := Z) hs rfl rfl rfl rfl ZO.out (by rw [ZL.out] <;> kernel_rfl) (by rw [ZL.out]) ?_)
   clear hs
   intro w hs
   simp only [List.cons_append, List.nil_append, List.set_cons_zero, List.set_cons_succ] at hs
   refine ⟨⟨hs.hold (.blk g2 41 Z) (by simp), hs.hold (.blk g3 27 [iv 9]) (by simp)⟩, ?_⟩
   (try simp only [Act.put, List.setIfInBounds_toArray, List.set_cons_zero, List.set_cons_succ])
   refine Ch.noise (by rfl) (by rfl) (by rfl) (Se.so 5 (v := iv 9) hs rfl rfl rfl rfl rfl (by kernel_rfl) (by simp) ?_)
   clear hs
   intro w hs
   simp only [List.cons_append, List.nil_append, List.set_cons_zero, List.set_cons_succ] at hs
   refine ⟨⟨hs.hold (.blk g2 41 Z) (by simp), hs.hold (.blk g3 27 [iv 9]) (by simp)⟩, ?_⟩
   (try simp only [Act.put, List.setIfInBounds_toArray, List.set_cons_zero, List.set_cons_succ])
   refine Ch.done ?_
   try simp only [List.drop_succ_cons, List.drop_zero]
   go_wp2_with fail
   (try simp only [Exit.noGoto_ret])
   refine Se.leave1 (Se.St.mid (Lb := [_, _, _, _, _, _]) (M := []) hs) ?_
   clear hs
   intro w hs
   simp only [List.cons_append, List.nil_append] at hs
   refine Se.leave0 (v := .tuple #[.agg Z.toArray, iv 9]) ?_ ?_
   ·exact Se.run_results_rc hs rfl rfl (Reads.blk 0 rfl) (by kernel_rfl) (by rw [ZL.out] <;> kernel_rfl) rfl (Cell.blk 5 rfl rfl) (by kernel_rfl)
   replace hs := hs.pull 5 rfl
   replace hs := hs.pull 3 rfl
   replace hs := hs.pull 3 rfl
   replace hs := hs.pull 3 rfl
   replace hs := hs.pull 5 rfl
   replace hs := hs.pull 5 rfl
   simp only [List.eraseIdx_cons_succ, List.eraseIdx_cons_zero] at hs
   have h2 := hs.sub (List.Sublist.cons_cons _ (List.Sublist.cons_cons _ (.cons _ (.cons _ (.cons _ (.cons _ (List.Sublist.refl _)))))))
   exact ⟨none, none, 0, none, none, 0, Z, rfl, HZE, _, _, _, (h2.nil_own 1 none).nil_own 1 none⟩
  ·obtain ⟨rfl, rfl, rfl⟩ := HR.out.2.1 h9 hY0
   have e1 := (int_ne hY0).1
   have e9 : ((e : Int) != 9) = true := by simp; omega
   clear h9 hY0
   go_upto_region 9 with (first | ((with_reducible refine Se.isL (o := ⟨some 17, _, _, _, _, _⟩) ?_); (refine Se.toL rfl (Se.ld (o := ⟨some 17, _, _, _, _, _⟩) hs rfl rfl (Cell.blk 5 rfl rfl) (by kernel_rfl) ?_))) | ((with_reducible refine Se.isL (o := ⟨some 20, _, _, _, _, _⟩) ?_); (refine Se.toL rfl (Se.ld (o := ⟨some 20, _, _, _, _, _⟩) hs rfl rfl (Cell.blk 5 rfl rfl) (by kernel_rfl) ?_))) | ((with_reducible refine Se.isL (o := ⟨some 25, _, _, _, _, _⟩) ?_); (refine Se.toL rfl (Se.ld (o := ⟨some 25, _, _, _, _, _⟩) hs rfl rfl (Cell.blk 5 rfl rfl) (by kernel_rfl) ?_))) | ((with_reducible refine Se.isL (o := ⟨none, _, _, _, _, _⟩) ?_); ((first | refine Se.toL rfl (Se.so 3 (v := .int _ _) hs rfl rfl rfl rfl rfl (by kernel_rfl) (by (try simp only [List.length_set]); exact (show _ < 8 by decide)) ?_) | refine Se.toL rfl (Se.so 3 (v := .bool _) hs rfl rfl rfl rfl rfl (by kernel_rfl) (by (try simp only [List.length_set]); exact (show _ < 8 by decide)) ?_) | refine Se.toL rfl (Se.so 3 (v := .slice _ _ _) hs rfl rfl rfl rfl rfl (by kernel_rfl) (by (try simp only [List.length_set]); exact (show _ < 8 by decide)) ?_) | refine Se.toL rfl (Se.so 3 (v := .pointer _) hs rfl rfl rfl rfl rfl (by kernel_rfl) (by (try simp only [List.length_set]); exact (show _ < 8 by decide)) ?_) | refine Se.toL rfl (Se.so 3 (v := .string _) hs rfl rfl rfl rfl rfl (by kernel_rfl) (by (try simp only [List.length_set]); exact (show _ < 8 by decide)) ?_) | refine Se.toL rfl (Se.so 3 (v := .map _) hs rfl rfl rfl rfl rfl (by kernel_rfl) (by (try simp only [List.length_set]); exact (show _ < 8 by decide)) ?_) | refine Se.toL rfl (Se.so 3 (v := .func _ _ _) hs rfl rfl rfl rfl rfl (by kernel_rfl) (by (try simp only [List.length_set]); exact (show _ < 8 by decide)) ?_) | refine Se.toL rfl (Se.so 3 (v := .nilFunc) hs rfl rfl rfl rfl rfl (by kernel_rfl) (by (try simp only [List.length_set]); exact (show _ < 8 by decide)) ?_)); clear hs; intro w hs; try simp only [List.cons_append, List.nil_append, List.set_cons_zero, List.set_cons_succ] at hs)))
   rw [HRE.out] at hs
   refine Ch.region' 4 (fun wx => Blk wx g2 Z 41 ∧ Blk wx g3 [iv e] 27) (fun | 2 => true | 3 => true | _ => false) (by kernel_rfl) (by decide +kernel) (⟨hs.drew.hold (.blk g2 41 Z) (by simp), hs.drew.hold (.blk g3 27 [iv e]) (by simp)⟩) ?_
   replace hs := hs.drew
   generalize w.drew = w at hs ⊢
   change Ch.CW _ _ _ _ _ [0, 1, 2, 3] _ _
   iterate 2 ((first | (refine Ch.pure (v := ?_) (by rfl) (by rfl) (by rfl) (fun wx hS => ?_) ?_; rotate_left; (focus (go_simp; (first | done | with_reducible rfl)))) | refine Ch.pure (v := _) (by rfl) (by rfl) (by rfl) (fun wx hS => Se.xla rfl rfl (Li.Rd.of_blk hS.1) (by rw [ZL.out] <;> kernel_rfl) (by kernel_rfl)) ?_ | refine Ch.pure (v := _) (by rfl) (by rfl) (by rfl) (fun wx hS => Se.xl rfl rfl (by rw [hS.2.cell]; rfl) (by decide +kernel)) ?_); (try simp only [Act.put, List.setIfInBounds_toArray, List.set_cons_zero, List.set_cons_succ]))
   refine Ch.noise (by rfl) (by rfl) (by rfl) (Se.sow 0 (vs := Z) hs rfl rfl rfl rfl ZO.out (by rw [ZL.out] <;> kernel_rfl) (by rw [ZL.out]) ?_)
   clear hs
   intro w hs
   simp only [List.cons_append, List.nil_append, List.set_cons_zero, List.set_cons_succ] at hs
   refine ⟨⟨hs.hold (.blk g2 41 Z) (by simp), hs.hold (.blk g3 27 [iv e]) (by simp)⟩, ?_⟩
   (try simp only [Act.put, List.setIfInBounds_toArray, List.set_cons_zero, List.set_cons_succ])
   refine Ch.noise (by rfl) (by rfl) (by rfl) (Se.so 5 (v := iv e) hs rfl rfl rfl rfl rfl (by kernel_rfl) (by simp) ?_)
   clear hs
   intro w hs
   simp only [List.cons_append, List.nil_append, List.set_cons_zero, List.set_cons_succ] at hs
   refine ⟨⟨hs.hold (.blk g2 41 Z) (by simp), hs.hold (.blk g3 27 [iv e]) (by simp)⟩, ?_⟩
   (try simp only [Act.put, List.setIfInBounds_toArray, List.set_cons_zero, List.set_cons_succ])
   refine Ch.done ?_
   try simp only [List.drop_succ_cons, List.drop_zero]
   go_wp2_with fail
   (try simp only [Exit.noGoto_ret])
   refine Se.leave1 (Se.St.mid (Lb := [_, _, _, _, _, _]) (M := []) hs) ?_
   clear hs
   intro w hs
   simp only [List.cons_append, List.nil_append] at hs
   refine Se.leave0 (v := .tuple #[.agg Z.toArray, iv e]) ?_ ?_
   ·exact Se.run_results_rc hs rfl rfl (Reads.blk 0 rfl) (by kernel_rfl) (by rw [ZL.out] <;> kernel_rfl) rfl (Cell.blk 5 rfl rfl) (by kernel_rfl)
   replace hs := hs.pull 5 rfl
   replace hs := hs.pull 3 rfl
   replace hs := hs.pull 3 rfl
   replace hs := hs.pull 3 rfl
   replace hs := hs.pull 5 rfl
   replace hs := hs.pull 5 rfl
   simp only [List.eraseIdx_cons_succ, List.eraseIdx_cons_zero] at hs
   have h2 := (hs.pull 1 rfl).drop
   have h3 := (hs.sub (List.Sublist.cons_cons _ (.cons _ (.cons _ (.cons _ (.cons _ (.cons _ (List.Sublist.refl _)))))))).perm (List.Perm.refl _)
   exact ⟨none, none, 0, none, none, 0, Z, rfl, HZE, none, none, 0, (((h3.nil_own 1 none).u11).nil_own 1 none).nil_own 1 none⟩
 ·rintro Dd cd x M1 L' w ⟨rfl, r1, EA, ec, r2, DA, dc, PC, r', B', c', hx, HPC, rfl⟩ ⟨rfl, PC2, g5, hx2, rfl⟩ hs
  obtain rfl : PC = PC2 := by
   rw [hx] at hx2
   simpa using hx2
  have PCL := Lib.hid (pcl PC HPC.out).1
  have PCO := Lib.hid (pcl PC HPC.out).2
  obtain ⟨rfl, rfl, rfl⟩ := HR.out.2.2 rfl
  simp only [compM, pR, pO, List.cons_append, List.nil_append] at hs
  clear hx hx2
  go_upto_region 9 with (first | ((with_reducible refine Se.isL (o := ⟨some 17, _, _, _, _, _⟩) ?_); (refine Se.toL rfl (Se.ld (o := ⟨some 17, _, _, _, _, _⟩) hs rfl rfl (Cell.blk 8 rfl rfl) (by kernel_rfl) ?_))))
  refine Ch.region' 4 (fun wx => Blk wx g2 PC 41 ∧ Blk wx g3 [iv 0] 27) (fun | 2 => true | 3 => true | _ => false) (by kernel_rfl) (by decide +kernel) (⟨hs.drew.hold (.blk g2 41 PC) (by simp), hs.drew.hold (.blk g3 27 [iv 0]) (by simp)⟩) ?_
  replace hs := hs.drew
  generalize w.drew = w at hs ⊢
  change Ch.CW _ _ _ _ _ [0, 1, 2, 3] _ _
  iterate 2 ((first | (refine Ch.pure (v := ?_) (by rfl) (by rfl) (by rfl) (fun wx hS => ?_) ?_; rotate_left; (focus (go_simp; (first | done | with_reducible rfl)))) | refine Ch.pure (v := _) (by rfl) (by rfl) (by rfl) (fun wx hS => Se.xla rfl rfl (Li.Rd.of_blk hS.1) (by rw [PCL.out] <;> kernel_rfl) (by kernel_rfl)) ?_ | refine Ch.pure (v := _) (by rfl) (by rfl) (by rfl) (fun wx hS => Se.xl rfl rfl (by rw [hS.2.cell]; rfl) (by decide +kernel)) ?_); (try simp only [Act.put, List.setIfInBounds_toArray, List.set_cons_zero, List.set_cons_succ]))
  refine Ch.noise (by rfl) (by rfl) (by rfl) (Se.sow 1 (vs := PC) hs rfl rfl rfl rfl PCO.out (by rw [PCL.out] <;> kernel_rfl) (by rw [PCL.out]) ?_)
  clear hs
  intro w hs
  simp only [List.cons_append, List.nil_append, List.set_cons_zero, List.set_cons_succ] at hs
  refine ⟨⟨hs.hold (.blk g2 41 PC) (by simp), hs.hold (.blk g3 27 [iv 0]) (by simp)⟩, ?_⟩
  (try simp only [Act.put, List.setIfInBounds_toArray, List.set_cons_zero, List.set_cons_succ])
  refine Ch.noise (by rfl) (by rfl) (by rfl) (Se.so 8 (v := iv 0) hs rfl rfl rfl rfl rfl (by kernel_rfl) (by simp) ?_)
  clear hs
  intro w hs
  simp only [List.cons_append, List.nil_append, List.set_cons_zero, List.set_cons_succ] at hs
  refine ⟨⟨hs.hold (.blk g2 41 PC) (by simp), hs.hold (.blk g3 27 [iv 0]) (by simp)⟩, ?_⟩
  (try simp only [Act.put, List.setIfInBounds_toArray, List.set_cons_zero, List.set_cons_succ])
  refine Ch.done ?_
  try simp only [List.drop_succ_cons, List.drop_zero]
  go_wp2_with fail
  (try simp only [Exit.noGoto_ret])
  refine Se.leave1 (Se.St.mid (Lb := [_, _, _, _, _, _, _, _, _]) (M := []) hs) ?_
  clear hs
  intro w hs
  simp only [List.cons_append, List.nil_append] at hs
  refine Se.leave0 (v := .tuple #[.agg PC.toArray, iv 0]) ?_ ?_
  ·exact Se.run_results_rc hs rfl rfl (Reads.blk 1 rfl) (by kernel_rfl) (by rw [PCL.out] <;> kernel_rfl) rfl (Cell.blk 8 rfl rfl) (by kernel_rfl)
  replace hs := hs.pull 8 rfl
  replace hs := hs.pull 6 rfl
  replace hs := hs.pull 6 rfl
  replace hs := hs.pull 4 rfl
  replace hs := hs.pull 4 rfl
  replace hs := hs.pull 8 rfl
  replace hs := hs.pull 8 rfl
  replace hs := hs.pull 8 rfl
  replace hs := hs.pull 8 rfl
  simp only [List.eraseIdx_cons_succ, List.eraseIdx_cons_zero] at hs
  have h2 := hs.sub (List.Sublist.cons_cons _ (List.Sublist.cons_cons _ (List.Sublist.cons_cons _ (List.Sublist.cons_cons _ (.cons _ (.cons _ (.cons _ (.cons _ (.cons _ (List.Sublist.refl _))))))))))
  exact ⟨r1, EA, ec, r2, DA, dc, PC, r', B', c', rfl, HPC, h2⟩
end Sr
end Go.Proofs.Ytdngfcmakjlamaa


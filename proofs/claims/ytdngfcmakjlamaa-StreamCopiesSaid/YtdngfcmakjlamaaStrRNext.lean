/- Layer 36: Next of the reference. No condition but Go's own limits. Printed by wip/gen_strrnext.py. -/
import Derived.Test.YtdngfcmakjlamaaStrComp
set_option linter.unusedSimpArgs false
set_option linter.unusedVariables false
namespace Go.Proofs.Ytdngfcmakjlamaa
open Go Go.RowKit
namespace Sr
open Pd (Fm PDU meas dec framed pc iv fl fv)
open Se (St At Reads Cell)
open Li (v8 v8_one Rd Blk Fr)
open Bv (n8 n16 n32 n64)
variable {w0 w : World} {X : List Nat} {L : List At} {s s' : Rc} {g c : Nat} {B : Option Addr} {r : Option Nat}
attribute [local irreducible] Calls
/-- Where a slice's rest begins. -/
def slA (B : Option Addr) (n c : Nat) : Option Addr := if c = n then B else B.map (·.add n)
theorem rtakeK_st (M : List At) (hs : St w0 X (M ++ L) w) (hB : Reads L B (s.b.map v8)) (hc : s.b.length ≤ c) (hl : s.b.length ≤ 4194304) {p : PDU} {n e : Nat} (hr : takeE s = (p, n, e)) :
  Calls Try.prog 62 #[.agg (rcl s B c).toArray] w fun e' w' => ∃ EA ec DA dc PC, e' = .returned (.tuple #[.agg PC.toArray, iv n, iv e]) ∧ Hid (PC = pc p.h EA p.en.length ec DA p.da.length dc) ∧ Hid (Reads L EA (p.en.map v8)) ∧ Hid (Reads L DA (p.da.map v8)) ∧ St w0 X (M ++ L) w' := by
 have h0 : St w [] [.rd B (s.b.map v8)] w := Pd.rd1 ((hB.app M) w hs.hold)
 have up : ∀ {A : Option Addr} {xs : List Value}, Reads [.rd B (s.b.map v8)] A xs → Reads L A xs := fun h w' hw => h w' (by
  intro a ha
  simp only [List.mem_singleton] at ha
  subst ha
  exact hB w' hw)
 refine (rtake_st h0 (Reads.rd 0 rfl) hc hl hr).mono ?_
 rintro r w' ⟨EA, ec, DA, dc, PC, h1, h2, h3, h4, h5⟩
 exact ⟨EA, ec, DA, dc, PC, h1, h2, Lib.hid (up h3.out), Lib.hid (up h4.out), hs.ext h5.below⟩
set_option maxRecDepth 100000 in
set_option maxRecDepth 100000 in
set_option maxHeartbeats 4000000 in
theorem rnext_st (hs : St w0 X (.rd B (s.b.map v8) :: L) w) (hc : s.b.length ≤ c) (hl : s.b.length ≤ 4194304) (hnb : s.nb + s.b.length ≤ 70368744177664) (hnp : s.np ≤ 70368744177664) {p : PDU} {e : Nat} (hr : nextE s = (s', p, e)) :
  Calls Try.prog 46 #[.agg (rcl s B c).toArray] w fun e' w' => ∃ RL' B' c' EA ec DA dc PC, e' = .returned (.tuple #[.agg RL'.toArray, .agg PC.toArray, iv e]) ∧ Hid (RL' = rcl s' B' c') ∧ Hid (s'.b.length ≤ c') ∧ Hid (PC = pc p.h EA p.en.length ec DA p.da.length dc) ∧ Hid (Reads (.rd B (s.b.map v8) :: L) EA (p.en.map v8)) ∧ Hid (Reads (.rd B (s.b.map v8) :: L) DA (p.da.map v8)) ∧ St w0 X (.rd B' (s'.b.map v8) :: .rd B (s.b.map v8) :: L) w' := by
 obtain ⟨RL, hRL⟩ : ∃ RL, RL = rcl s B c := ⟨_, rfl⟩
 obtain ⟨m, hm0⟩ : ∃ m, m = s.b.length := ⟨_, rfl⟩
 obtain ⟨ee, hee⟩ : ∃ ee, s.e = ee := ⟨_, rfl⟩
 obtain ⟨nb, hnb0⟩ : ∃ m, m = s.nb := ⟨_, rfl⟩
 obtain ⟨np, hnp0⟩ : ∃ m, m = s.np := ⟨_, rfl⟩
 obtain ⟨Z, hZ⟩ : ∃ Z, Z = pc {} none 0 0 none 0 0 := ⟨_, rfl⟩
 obtain ⟨xs, hxs⟩ : ∃ xs, xs = s.b.map v8 := ⟨_, rfl⟩
 have ZL := Lib.hid (show Z.length = 14 by rw [hZ]; rfl)
 have ZO := Lib.hid (show ∀ v ∈ Z, v.oneCell' = true by rw [hZ]; exact Pd.pc_one _ _ _ _ _ _ _)
 have HZ : Hid ((Try.prog.info? 41).bind (fun i => i.zero.map (·.cells.toList)) = some Z) := Lib.hid (by rw [hZ]; exact zP0)
 have BP : Hid (∀ w : World, (Instr.build 41 #[]).run Try.prog w = .ok (.agg Z.toArray) w) := Lib.hid (by rw [hZ]; exact bP0)
 have HZE := Lib.hid hZ
 have ZRL := Lib.hid (show (rcl { f := ⟨false, false, 0⟩, mo := 0 } none 0).length = 8 from rfl)
 have RLen := Lib.hid (show RL.length = 8 by rw [hRL]; rfl)
 have RO := Lib.hid (show ∀ v ∈ RL, v.oneCell' = true by rw [hRL]; exact rcl_one _ _ _)
 have R4 := Lib.hid (show RL[4]? = some (.slice B m c) by rw [hRL, hm0]; rfl)
 have R5 := Lib.hid (show RL[5]? = some (iv ee) by rw [hRL, ← hee]; rfl)
 have R6 := Lib.hid (show RL[6]? = some (iv nb) by rw [hRL, hnb0]; rfl)
 have R6b := Lib.hid (show ∀ v, (RL.set 4 v)[6]? = some (iv nb) by rw [hRL, hnb0]; intro v; rfl)
 have R7 := Lib.hid (show RL[7]? = some (iv np) by rw [hRL, hnp0]; rfl)
 have R7b := Lib.hid (show ∀ v, (RL.set 4 v)[7]? = some (iv np) by rw [hRL, hnp0]; intro v; rfl)
 have R7c := Lib.hid (show ∀ v u, ((RL.set 4 v).set 6 u)[7]? = some (iv np) by rw [hRL, hnp0]; intro v u; rfl)
 have HRL := Lib.hid hRL
 have HC := Lib.hid hc
 have HM := Lib.hid hm0
 have HXS := Lib.hid hxs
 have HRE : Hid (∀ (a : Nat), (RL.set 5 (iv a)).set 4 (.slice none 0 0) = rcl { s with e := a, b := [] } none 0) := Lib.hid (fun a => by rw [hRL]; rfl)
 rw [← hxs] at hs ⊢
 rw [← hRL]
 unfold nextE at hr
 by_cases h0 : ee = 0
 rotate_left
 ·rw [if_pos (by rw [hee]; exact h0), hee] at hr
  cases hr
  have e1 := (int_ne h0).1
  clear hee h0 hl hnb hnp hRL hm0 hnb0 hnp0 hxs hZ hc
  go_enter Try.func46, Try.ntmps46
  go_upto_region 2 with (first | ((with_reducible refine Se.isL (o := ⟨some 2, _, _, _, _, _⟩) ?_); (refine Se.toL rfl (Se.al (o := ⟨some 2, _, _, _, _, _⟩) hs rfl (zR) ?_); clear hs; rintro w g2 - hs)) | ((with_reducible refine Se.isL (o := ⟨some 3, _, _, _, _, _⟩) ?_); (refine Se.toL rfl (Se.al (o := ⟨some 3, _, _, _, _, _⟩) hs rfl (HZ.out) ?_); clear hs; rintro w g3 - hs)) | ((with_reducible refine Se.isL (o := ⟨some 9, _, _, _, _, _⟩) ?_); (refine Se.toL rfl (Se.ld (o := ⟨some 9, _, _, _, _, _⟩) hs rfl rfl (Cell.blk 2 rfl R5.out) (by kernel_rfl) ?_))) | ((first | with_reducible refine Se.ab hs ?_ | with_reducible refine Se.abc hs ?_); clear hs; (first | (generalize w.heap.size = g1; intro w hs))))
  refine Ch.region' 7 (fun wx => Blk wx g1 RL 57) (fun | 4 => true | 5 => true | _ => false) (by kernel_rfl) (by decide +kernel) (hs.drew.hold (.blk g1 57 RL) (by simp)) ?_
  replace hs := hs.drew
  generalize w.drew = w at hs ⊢
  change Ch.CW _ _ _ _ _ [0, 1, 2, 3, 4, 5, 6] _ _
  iterate 1 ((first | (refine Ch.pure (v := ?_) (by rfl) (by rfl) (by rfl) (fun wx hS => ?_) ?_; rotate_left; (focus (go_simp; (first | done | with_reducible rfl)))) | refine Ch.pure (v := _) (by rfl) (by rfl) (by rfl) (fun wx hS => Se.xla rfl rfl (Li.Rd.of_blk hS) (by rw [RLen.out] <;> kernel_rfl) (by kernel_rfl)) ?_); (try simp only [Act.put, List.setIfInBounds_toArray, List.set_cons_zero, List.set_cons_succ]))
  refine Ch.pure (v := .agg Z.toArray) (by rfl) (by rfl) (by rfl) (fun wx hS => Pd.xbd rfl (vs := []) rfl (BP.out _)) ?_
  (try simp only [Act.put, List.setIfInBounds_toArray, List.set_cons_zero, List.set_cons_succ])
  iterate 2 ((first | (refine Ch.pure (v := ?_) (by rfl) (by rfl) (by rfl) (fun wx hS => ?_) ?_; rotate_left; (focus (go_simp; (first | done | with_reducible rfl)))) | refine Ch.pure (v := _) (by rfl) (by rfl) (by rfl) (fun wx hS => Se.xl rfl rfl (by rw [hS.cell]; exact R5.out) (by decide +kernel)) ?_); (try simp only [Act.put, List.setIfInBounds_toArray, List.set_cons_zero, List.set_cons_succ]))
  refine Ch.noise (by rfl) (by rfl) (by rfl) (Se.sow 1 (vs := RL) hs rfl rfl rfl rfl RO.out (by rw [RLen.out] <;> kernel_rfl) (by rw [RLen.out, ZRL.out]) ?_)
  clear hs
  intro w hs
  simp only [List.cons_append, List.nil_append, List.set_cons_zero, List.set_cons_succ] at hs
  refine ⟨hs.hold (.blk g1 57 RL) (by simp), ?_⟩
  (try simp only [Act.put, List.setIfInBounds_toArray, List.set_cons_zero, List.set_cons_succ])
  refine Ch.noise (by rfl) (by rfl) (by rfl) (Se.sow 0 (vs := Z) hs rfl rfl rfl rfl ZO.out (by rw [ZL.out] <;> kernel_rfl) (by rw [ZL.out]) ?_)
  clear hs
  intro w hs
  simp only [List.cons_append, List.nil_append, List.set_cons_zero, List.set_cons_succ] at hs
  refine ⟨hs.hold (.blk g1 57 RL) (by simp), ?_⟩
  (try simp only [Act.put, List.setIfInBounds_toArray, List.set_cons_zero, List.set_cons_succ])
  iterate 1 ((first | (refine Ch.pure (v := ?_) (by rfl) (by rfl) (by rfl) (fun wx hS => ?_) ?_; rotate_left; (focus (go_simp; (first | done | with_reducible rfl))))); (try simp only [Act.put, List.setIfInBounds_toArray, List.set_cons_zero, List.set_cons_succ]))
  refine Ch.done ?_
  try simp only [List.drop_succ_cons, List.drop_zero]
  go_wp2_with fail
  refine Se.ret hs [.agg RL.toArray, .agg Z.toArray, iv _] rfl ⟨Se.resRow rfl (Reads.blk 1 rfl) (by kernel_rfl) (by rw [RLen.out] <;> kernel_rfl), Se.resRow rfl (Reads.blk 0 rfl) (by kernel_rfl) (by rw [ZL.out] <;> kernel_rfl), rfl, trivial⟩ (by simp) rfl ?_
  refine ⟨RL, B, c, none, 0, none, 0, Z, rfl, HRL, HC, HZE, Lib.hid Reads.nil, Lib.hid Reads.nil, ?_⟩
  rw [← HXS.out]
  exact hs.drop.drop.drop.dup (by simp)
 subst h0
 rw [if_neg (by simpa using hee)] at hr
 obtain ⟨⟨p2, n, e2⟩, ht⟩ : ∃ x, takeE s = x := ⟨_, rfl⟩
 rw [ht] at hr
 have CT : Hid (∀ (M : List At) (w : World), St w0 X (M ++ .rd B xs :: L) w → Calls Try.prog 62 #[.agg RL.toArray] w fun e' w' => ∃ EA ec DA dc PC, e' = .returned (.tuple #[.agg PC.toArray, iv n, iv e2]) ∧ Hid (PC = pc p2.h EA p2.en.length ec DA p2.da.length dc) ∧ Hid (Reads (.rd B xs :: L) EA (p2.en.map v8)) ∧ Hid (Reads (.rd B xs :: L) DA (p2.da.map v8)) ∧ St w0 X (M ++ .rd B xs :: L) w') := Lib.hid (fun M w hs => by
  rw [hRL, hxs] at *
  exact rtakeK_st M hs (Reads.rd 0 rfl) hc hl ht)
 have htl := take_len ht
 have hnm := Lib.hid (show n ≤ m by omega)
 have HTN : Hid (e2 ≠ 0 → p2 = {}) := Lib.hid (fun h => take_none ht h)
 have HR : Hid ((e2 = 9 → s' = s ∧ p = {} ∧ e = 9) ∧ (e2 ≠ 9 → e2 ≠ 0 → s' = { s with e := e2, b := [] } ∧ p = {} ∧ e = e2) ∧ (e2 = 0 → s' = eat s n ∧ p = p2 ∧ e = 0)) := Lib.hid (by
  refine ⟨fun h => ?_, fun h h' => ?_, fun h => ?_⟩
  ·subst h; cases hr; exact ⟨rfl, rfl, rfl⟩
  ·dsimp only at hr
   rw [if_neg h, if_pos h'] at hr
   cases hr; exact ⟨rfl, rfl, rfl⟩
  ·subst h; cases hr; exact ⟨rfl, rfl, rfl⟩)
 have w1 : IntKind.i64.wrap ((nb : Int) + (n : Int)) = ((nb + n : Nat) : Int) := by rw [IntWalk.i64_in _ (by omega)]; omega
 have w2 : IntKind.i64.wrap ((np : Int) + 1) = ((np + 1 : Nat) : Int) := by rw [IntWalk.i64_in _ (by omega)]; omega
 have HR2 : Hid (∀ B' c', ((RL.set 4 (.slice B' (m - n) c')).set 6 (iv (nb + n))).set 7 (.int .i64 ((np : Int) + 1)) = rcl (eat s n) B' c') := Lib.hid (fun B' c' => by rw [hRL, hm0, hnb0, hnp0]; simp [rcl, eat])
 have k1 : (n : Int) ≤ (m : Int) := by omega
 have k2 : (m : Int) ≤ (c : Int) := by omega
 have HSUB : Hid (∀ w : World, St w0 X (.rd B xs :: L) w → St w0 X (.rd (slA B n c) ((s.b.drop n).map v8) :: .rd B xs :: L) w) := Lib.hid (fun w hs => by
  unfold slA
  have h1 := hs.dup (A := B) (xs := xs) (by simp)
  refine h1.rdSub ?_ ?_
  ·exact sl_from (n := s.b.length) (L := .rd B xs :: L) (by rw [hxs]; exact Reads.rd 0 rfl) htl (fun h => by omega) w hs.hold
  ·intro hy
   refine ⟨fun hx => hy ?_, fun a' ha => ?_⟩
   ·rw [hxs] at hx
    have : s.b = [] := by simpa using hx
    rw [this]; simp
   ·split at ha
    ·exact ⟨a', ha, rfl⟩
    ·cases hB : B with
     | none => rw [hB] at ha; cases ha
     | some a =>
      rw [hB] at ha
      simp only [Option.map_some, Option.some.injEq] at ha
      subst ha
      exact ⟨a, rfl, by unfold Addr.add; split <;> rfl⟩)
 clear hr ht hee hl hnb hnp hRL hm0 hnb0 hnp0 hxs hZ hc htl
 by_cases h9 : e2 = 9
 ·subst h9
  obtain ⟨rfl, rfl, rfl⟩ := HR.out.1 rfl
  clear w1 w2 k1 k2
  go_enter Try.func46, Try.ntmps46
  go_upto_region 3 with (first | ((with_reducible refine Se.isL (o := ⟨some 2, _, _, _, _, _⟩) ?_); (refine Se.toL rfl (Se.al (o := ⟨some 2, _, _, _, _, _⟩) hs rfl (zR) ?_); clear hs; rintro w g2 - hs)) | ((with_reducible refine Se.isL (o := ⟨some 3, _, _, _, _, _⟩) ?_); (refine Se.toL rfl (Se.al (o := ⟨some 3, _, _, _, _, _⟩) hs rfl (HZ.out) ?_); clear hs; rintro w g3 - hs)) | ((with_reducible refine Se.isL (o := ⟨some 9, _, _, _, _, _⟩) ?_); (refine Se.toL rfl (Se.ld (o := ⟨some 9, _, _, _, _, _⟩) hs rfl rfl (Cell.blk 2 rfl R5.out) (by kernel_rfl) ?_))) | ((first | with_reducible refine Se.ab hs ?_ | with_reducible refine Se.abc hs ?_); clear hs; (first | (generalize w.heap.size = g1; intro w hs))))
  go_upto_region 4 with (first | ((with_reducible refine Se.isL (o := ⟨some 16, _, _, _, _, _⟩) ?_); (refine Se.toL rfl (Se.ldw (o := ⟨some 16, _, _, _, _, _⟩) hs rfl rfl ((Reads.blk 2 rfl)) ((by rw [RLen.out]; kernel_rfl)) (by kernel_rfl) ?_))) | ((with_reducible refine Se.isL (o := ⟨some 5, _, _, _, _, _⟩) ?_); (refine Se.toL rfl (Se.al (o := ⟨some 5, _, _, _, _, _⟩) hs rfl (HZ.out) ?_); clear hs; rintro w g5 - hs)) | ((with_reducible refine Se.isL (o := ⟨none, _, _, _, _, _⟩) ?_); (refine Se.toL rfl (Se.sow 0 hs rfl rfl rfl rfl ((by exact (pcl _ HPC.out).2)) ((by rw [(pcl _ HPC.out).1]; kernel_rfl)) ((by rw [(pcl _ HPC.out).1, ZL.out])) ?_); clear hs; intro w hs; try simp only [List.cons_append, List.nil_append, List.set_cons_zero] at hs)) | (go_at_call 62; refine Calls.mono (CT.out [_, _, _] _ hs) ?_; clear hs; rintro e w ⟨EA, ec, DA, dc, PC, rfl, HPC, RE, RD, hs⟩))
  clear RE RD HPC
  go_wp2_with (first | ((with_reducible refine Se.isL (o := ⟨some 23, _, _, _, _, _⟩) ?_); (refine Se.toL rfl (Se.ldw (o := ⟨some 23, _, _, _, _, _⟩) hs rfl rfl ((Reads.blk 3 rfl)) ((by rw [RLen.out]; kernel_rfl)) (by kernel_rfl) ?_))) | ((with_reducible refine Se.isL (o := ⟨some 24, _, _, _, _, _⟩) ?_); (refine Se.toL rfl (Se.bd (o := ⟨some 24, _, _, _, _, _⟩) rfl rfl (BP.out _) ?_))) | ((with_reducible refine Se.isL (o := ⟨none, Op.store 57 _ _, _, _, _, _⟩) ?_); (refine Se.toL rfl (Se.sow 2 hs rfl rfl rfl rfl (RO.out) ((by rw [RLen.out]; kernel_rfl)) ((by rw [RLen.out, ZRL.out])) ?_); clear hs; intro w hs; try simp only [List.cons_append, List.nil_append, List.set_cons_zero, List.set_cons_succ] at hs)) | ((with_reducible refine Se.isL (o := ⟨none, Op.store 41 _ _, _, _, _, _⟩) ?_); (refine Se.toL rfl (Se.sow 1 hs rfl rfl rfl rfl (ZO.out) ((by rw [ZL.out]; kernel_rfl)) ((by rw [ZL.out])) ?_); clear hs; intro w hs; try simp only [List.cons_append, List.nil_append, List.set_cons_zero, List.set_cons_succ] at hs)))
  refine Se.ret hs [.agg RL.toArray, .agg Z.toArray, iv _] rfl ⟨Se.resRow rfl (Reads.blk 2 rfl) (by kernel_rfl) (by rw [RLen.out] <;> kernel_rfl), Se.resRow rfl (Reads.blk 1 rfl) (by kernel_rfl) (by rw [ZL.out] <;> kernel_rfl), rfl, trivial⟩ (by simp) rfl ?_
  refine ⟨RL, B, c, none, 0, none, 0, Z, rfl, HRL, HC, HZE, Lib.hid Reads.nil, Lib.hid Reads.nil, ?_⟩
  rw [← HXS.out]
  exact hs.drop.drop.drop.drop.dup (by simp)
 by_cases he : e2 = 0
 rotate_left
 ·obtain ⟨rfl, rfl, rfl⟩ := HR.out.2.1 h9 he
  have e1 := (int_ne he).1
  have e9 : ((e : Int) == 9) = false := by simp; omega
  clear w1 w2 k1 k2 h9 he
  go_enter Try.func46, Try.ntmps46
  go_upto_region 3 with (first | ((with_reducible refine Se.isL (o := ⟨some 2, _, _, _, _, _⟩) ?_); (refine Se.toL rfl (Se.al (o := ⟨some 2, _, _, _, _, _⟩) hs rfl (zR) ?_); clear hs; rintro w g2 - hs)) | ((with_reducible refine Se.isL (o := ⟨some 3, _, _, _, _, _⟩) ?_); (refine Se.toL rfl (Se.al (o := ⟨some 3, _, _, _, _, _⟩) hs rfl (HZ.out) ?_); clear hs; rintro w g3 - hs)) | ((with_reducible refine Se.isL (o := ⟨some 9, _, _, _, _, _⟩) ?_); (refine Se.toL rfl (Se.ld (o := ⟨some 9, _, _, _, _, _⟩) hs rfl rfl (Cell.blk 2 rfl R5.out) (by kernel_rfl) ?_))) | ((first | with_reducible refine Se.ab hs ?_ | with_reducible refine Se.abc hs ?_); clear hs; (first | (generalize w.heap.size = g1; intro w hs))))
  go_upto_region 4 with (first | ((with_reducible refine Se.isL (o := ⟨some 16, _, _, _, _, _⟩) ?_); (refine Se.toL rfl (Se.ldw (o := ⟨some 16, _, _, _, _, _⟩) hs rfl rfl ((Reads.blk 2 rfl)) ((by rw [RLen.out]; kernel_rfl)) (by kernel_rfl) ?_))) | ((with_reducible refine Se.isL (o := ⟨some 5, _, _, _, _, _⟩) ?_); (refine Se.toL rfl (Se.al (o := ⟨some 5, _, _, _, _, _⟩) hs rfl (HZ.out) ?_); clear hs; rintro w g5 - hs)) | ((with_reducible refine Se.isL (o := ⟨none, _, _, _, _, _⟩) ?_); (refine Se.toL rfl (Se.sow 0 hs rfl rfl rfl rfl ((by exact (pcl _ HPC.out).2)) ((by rw [(pcl _ HPC.out).1]; kernel_rfl)) ((by rw [(pcl _ HPC.out).1, ZL.out])) ?_); clear hs; intro w hs; try simp only [List.cons_append, List.nil_append, List.set_cons_zero] at hs)) | (go_at_call 62; refine Calls.mono (CT.out [_, _, _] _ hs) ?_; clear hs; rintro e w ⟨EA, ec, DA, dc, PC, rfl, HPC, RE, RD, hs⟩))
  clear RE RD HPC
  go_upto_region 8 with (first | ((with_reducible refine Se.isL (o := ⟨none, _, _, _, _, _⟩) ?_); ((first | refine Se.toL rfl (Se.so 3 (v := .int _ _) hs rfl rfl rfl rfl rfl (by kernel_rfl) (by (try simp only [List.length_set]); rw [RLen.out]; decide) ?_) | refine Se.toL rfl (Se.so 3 (v := .bool _) hs rfl rfl rfl rfl rfl (by kernel_rfl) (by (try simp only [List.length_set]); rw [RLen.out]; decide) ?_) | refine Se.toL rfl (Se.so 3 (v := .slice _ _ _) hs rfl rfl rfl rfl rfl (by kernel_rfl) (by (try simp only [List.length_set]); rw [RLen.out]; decide) ?_) | refine Se.toL rfl (Se.so 3 (v := .pointer _) hs rfl rfl rfl rfl rfl (by kernel_rfl) (by (try simp only [List.length_set]); rw [RLen.out]; decide) ?_) | refine Se.toL rfl (Se.so 3 (v := .string _) hs rfl rfl rfl rfl rfl (by kernel_rfl) (by (try simp only [List.length_set]); rw [RLen.out]; decide) ?_) | refine Se.toL rfl (Se.so 3 (v := .map _) hs rfl rfl rfl rfl rfl (by kernel_rfl) (by (try simp only [List.length_set]); rw [RLen.out]; decide) ?_) | refine Se.toL rfl (Se.so 3 (v := .func _ _ _) hs rfl rfl rfl rfl rfl (by kernel_rfl) (by (try simp only [List.length_set]); rw [RLen.out]; decide) ?_) | refine Se.toL rfl (Se.so 3 (v := .nilFunc) hs rfl rfl rfl rfl rfl (by kernel_rfl) (by (try simp only [List.length_set]); rw [RLen.out]; decide) ?_)); clear hs; intro w hs; try simp only [List.cons_append, List.nil_append, List.set_cons_zero, List.set_cons_succ] at hs)))
  rw [HRE.out] at hs
  obtain ⟨RL2, hRL2⟩ : ∃ RL2, RL2 = rcl { s with e := e, b := [] } none 0 := ⟨_, rfl⟩
  rw [← hRL2] at hs
  have R2L := Lib.hid (show RL2.length = 8 by rw [hRL2]; rfl)
  have R2O := Lib.hid (show ∀ v ∈ RL2, v.oneCell' = true by rw [hRL2]; exact rcl_one _ _ _)
  have HRL2 := Lib.hid hRL2
  clear hRL2
  go_wp2_with (first | ((with_reducible refine Se.isL (o := ⟨some 31, _, _, _, _, _⟩) ?_); (refine Se.toL rfl (Se.ldw (o := ⟨some 31, _, _, _, _, _⟩) hs rfl rfl ((Reads.blk 3 rfl)) ((by rw [R2L.out]; kernel_rfl)) (by kernel_rfl) ?_))) | ((with_reducible refine Se.isL (o := ⟨some 32, _, _, _, _, _⟩) ?_); (refine Se.toL rfl (Se.bd (o := ⟨some 32, _, _, _, _, _⟩) rfl rfl (BP.out _) ?_))) | ((with_reducible refine Se.isL (o := ⟨none, Op.store 57 _ _, _, _, _, _⟩) ?_); (refine Se.toL rfl (Se.sow 2 hs rfl rfl rfl rfl (R2O.out) ((by rw [R2L.out]; kernel_rfl)) ((by rw [R2L.out, ZRL.out])) ?_); clear hs; intro w hs; try simp only [List.cons_append, List.nil_append, List.set_cons_zero, List.set_cons_succ] at hs)) | ((with_reducible refine Se.isL (o := ⟨none, Op.store 41 _ _, _, _, _, _⟩) ?_); (refine Se.toL rfl (Se.sow 1 hs rfl rfl rfl rfl (ZO.out) ((by rw [ZL.out]; kernel_rfl)) ((by rw [ZL.out])) ?_); clear hs; intro w hs; try simp only [List.cons_append, List.nil_append, List.set_cons_zero, List.set_cons_succ] at hs)))
  refine Se.ret hs [.agg RL2.toArray, .agg Z.toArray, iv _] rfl ⟨Se.resRow rfl (Reads.blk 2 rfl) (by kernel_rfl) (by rw [R2L.out] <;> kernel_rfl), Se.resRow rfl (Reads.blk 1 rfl) (by kernel_rfl) (by rw [ZL.out] <;> kernel_rfl), rfl, trivial⟩ (by simp) rfl ?_
  refine ⟨RL2, none, 0, none, 0, none, 0, Z, rfl, HRL2, Lib.hid (Nat.le_refl _), HZE, Lib.hid Reads.nil, Lib.hid Reads.nil, ?_⟩
  exact (hs.drop.drop.drop.drop.dup (A := B) (xs := xs) (by simp)).rdSub (.inl rfl) (fun h => absurd rfl h)
 subst he
 obtain ⟨rfl, rfl, rfl⟩ := HR.out.2.2 rfl
 clear h9 HTN
 go_enter Try.func46, Try.ntmps46
 go_upto_region 3 with (first | ((with_reducible refine Se.isL (o := ⟨some 2, _, _, _, _, _⟩) ?_); (refine Se.toL rfl (Se.al (o := ⟨some 2, _, _, _, _, _⟩) hs rfl (zR) ?_); clear hs; rintro w g2 - hs)) | ((with_reducible refine Se.isL (o := ⟨some 3, _, _, _, _, _⟩) ?_); (refine Se.toL rfl (Se.al (o := ⟨some 3, _, _, _, _, _⟩) hs rfl (HZ.out) ?_); clear hs; rintro w g3 - hs)) | ((with_reducible refine Se.isL (o := ⟨some 9, _, _, _, _, _⟩) ?_); (refine Se.toL rfl (Se.ld (o := ⟨some 9, _, _, _, _, _⟩) hs rfl rfl (Cell.blk 2 rfl R5.out) (by kernel_rfl) ?_))) | ((first | with_reducible refine Se.ab hs ?_ | with_reducible refine Se.abc hs ?_); clear hs; (first | (generalize w.heap.size = g1; intro w hs))))
 go_upto_region 4 with (first | ((with_reducible refine Se.isL (o := ⟨some 16, _, _, _, _, _⟩) ?_); (refine Se.toL rfl (Se.ldw (o := ⟨some 16, _, _, _, _, _⟩) hs rfl rfl ((Reads.blk 2 rfl)) ((by rw [RLen.out]; kernel_rfl)) (by kernel_rfl) ?_))) | ((with_reducible refine Se.isL (o := ⟨some 5, _, _, _, _, _⟩) ?_); (refine Se.toL rfl (Se.al (o := ⟨some 5, _, _, _, _, _⟩) hs rfl (HZ.out) ?_); clear hs; rintro w g5 - hs)) | ((with_reducible refine Se.isL (o := ⟨none, _, _, _, _, _⟩) ?_); (refine Se.toL rfl (Se.sow 0 hs rfl rfl rfl rfl ((by exact (pcl _ HPC.out).2)) ((by rw [(pcl _ HPC.out).1]; kernel_rfl)) ((by rw [(pcl _ HPC.out).1, ZL.out])) ?_); clear hs; intro w hs; try simp only [List.cons_append, List.nil_append, List.set_cons_zero] at hs)) | (go_at_call 62; refine Calls.mono (CT.out [_, _, _] _ hs) ?_; clear hs; rintro e w ⟨EA, ec, DA, dc, PC, rfl, HPC, RE, RD, hs⟩))
 have PCL := Lib.hid (pcl PC HPC.out).1
 have PCO := Lib.hid (pcl PC HPC.out).2
 go_upto_region 9 with (fail)
 go_cut [4] (fun s4 wx => St w0 X ([.blk g5 41 PC, .blk g3 41 Z, .blk g2 57 (rcl { f := ⟨false, false, 0⟩, mo := 0 } none 0), .blk g1 57 (rcl (eat s n) (slA B n c) (c - n))] ++ .rd B xs :: L) wx)
 case first =>
  refine Or.region 16 (fun wx => wx.cell? ⟨g1, 7, none⟩ = some (iv np)) (fun | 1 => true | 5 => true | 12 => true | 14 => true | _ => false) (by kernel_rfl) (by decide +kernel) ((Cell.blk 3 rfl R7.out) _ hs.drew.hold) ?_
  replace hs := hs.drew
  generalize w.drew = w at hs ⊢
  change Or.AW _ _ _ _ _ 16 [0, 1, 2, 3, 4, 5, 6, 7, 8, 9, 10, 11, 12, 13, 14, 15] _ _
  refine Or.pure 0 (v := ?_) (by rfl) (by decide +kernel) (by rfl) (by rfl) (by rfl) (fun wx hS => ?_) ?_; rotate_left; (focus (go_simp; (first | done | with_reducible rfl)))
  (try simp only [Act.put, List.setIfInBounds_toArray, List.set_cons_zero, List.set_cons_succ])
  change Or.AW _ _ _ _ _ 15 [1, 2, 3, 4, 5, 6, 7, 8, 9, 10, 11, 12, 13, 14, 15] _ _
  refine Or.pure 2 (v := ?_) (by rfl) (by decide +kernel) (by rfl) (by rfl) (by rfl) (fun wx hS => ?_) ?_; rotate_left; (focus (go_simp; (first | done | with_reducible rfl)))
  (try simp only [Act.put, List.setIfInBounds_toArray, List.set_cons_zero, List.set_cons_succ])
  change Or.AW _ _ _ _ _ 14 [1, 3, 4, 5, 6, 7, 8, 9, 10, 11, 12, 13, 14, 15] _ _
  refine Or.pure 4 (v := ?_) (by rfl) (by decide +kernel) (by rfl) (by rfl) (by rfl) (fun wx hS => ?_) ?_; rotate_left; (focus (go_simp; (first | done | with_reducible rfl)))
  (try simp only [Act.put, List.setIfInBounds_toArray, List.set_cons_zero, List.set_cons_succ])
  change Or.AW _ _ _ _ _ 13 [1, 3, 5, 6, 7, 8, 9, 10, 11, 12, 13, 14, 15] _ _
  refine Or.pure 6 (v := ?_) (by rfl) (by decide +kernel) (by rfl) (by rfl) (by rfl) (fun wx hS => ?_) ?_; rotate_left; (focus (go_simp; (first | done | with_reducible rfl)))
  (try simp only [Act.put, List.setIfInBounds_toArray, List.set_cons_zero, List.set_cons_succ])
  change Or.AW _ _ _ _ _ 12 [1, 3, 5, 7, 8, 9, 10, 11, 12, 13, 14, 15] _ _
  refine Or.pure 8 (v := ?_) (by rfl) (by decide +kernel) (by rfl) (by rfl) (by rfl) (fun wx hS => ?_) ?_; rotate_left; (focus (go_simp; (first | done | with_reducible rfl)))
  (try simp only [Act.put, List.setIfInBounds_toArray, List.set_cons_zero, List.set_cons_succ])
  change Or.AW _ _ _ _ _ 11 [1, 3, 5, 7, 9, 10, 11, 12, 13, 14, 15] _ _
  refine Or.pure 9 (v := iv np) (by rfl) (by decide +kernel) (by rfl) (by rfl) (by rfl) (fun wx hS => Se.xl rfl rfl hS (by decide +kernel)) ?_
  (try simp only [Act.put, List.setIfInBounds_toArray, List.set_cons_zero, List.set_cons_succ])
  change Or.AW _ _ _ _ _ 10 [1, 3, 5, 7, 10, 11, 12, 13, 14, 15] _ _
  refine Or.pure 10 (v := ?_) (by rfl) (by decide +kernel) (by rfl) (by rfl) (by rfl) (fun wx hS => ?_) ?_; rotate_left; (focus (go_simp; (first | done | with_reducible rfl)))
  (try simp only [Act.put, List.setIfInBounds_toArray, List.set_cons_zero, List.set_cons_succ])
  change Or.AW _ _ _ _ _ 9 [1, 3, 5, 7, 11, 12, 13, 14, 15] _ _
  refine Or.two 1 5 (by decide +kernel) (by decide +kernel) (by rfl) (by rfl) (by rfl) (by rfl) ?_ ?_
  ·skip
   refine Se.ld hs rfl rfl (Cell.blk 3 rfl R4.out) (by kernel_rfl) ?_
   refine ⟨(Cell.blk 3 rfl R7.out) _ hs.hold, ?_⟩
   (try simp only [Act.put, List.setIfInBounds_toArray, List.set_cons_zero, List.set_cons_succ])
   change Or.AW _ _ _ _ _ 8 [3, 5, 7, 11, 12, 13, 14, 15] _ _
   refine Or.pure 3 (v := .slice (slA B n c) (m - n) (c - n)) (by rfl) (by decide +kernel) (by rfl) (by rfl) (by rfl) (fun wx hS => (by unfold slA; go_simp)) ?_
   (try simp only [Act.put, List.setIfInBounds_toArray, List.set_cons_zero, List.set_cons_succ])
   change Or.AW _ _ _ _ _ 7 [5, 7, 11, 12, 13, 14, 15] _ _
   refine Or.one 5 (by decide +kernel) (by decide +kernel) (by rfl) (by rfl) ?_
   refine Se.ld hs rfl rfl (Cell.blk 3 rfl R6.out) (by kernel_rfl) ?_
   refine ⟨(Cell.blk 3 rfl R7.out) _ hs.hold, ?_⟩
   (try simp only [Act.put, List.setIfInBounds_toArray, List.set_cons_zero, List.set_cons_succ])
   change Or.AW _ _ _ _ _ 6 [7, 11, 12, 13, 14, 15] _ _
   refine Or.pure 7 (v := ?_) (by rfl) (by decide +kernel) (by rfl) (by rfl) (by rfl) (fun wx hS => ?_) ?_; rotate_left; (focus (go_simp; (first | done | with_reducible rfl)))
   (try simp only [Act.put, List.setIfInBounds_toArray, List.set_cons_zero, List.set_cons_succ])
   change Or.AW _ _ _ _ _ 5 [11, 12, 13, 14, 15] _ _
   refine Or.pure 11 (v := ?_) (by rfl) (by decide +kernel) (by rfl) (by rfl) (by rfl) (fun wx hS => ?_) ?_; rotate_left; (focus (go_simp; (first | done | with_reducible rfl)))
   (try simp only [Act.put, List.setIfInBounds_toArray, List.set_cons_zero, List.set_cons_succ])
   change Or.AW _ _ _ _ _ 4 [12, 13, 14, 15] _ _
   refine Or.one 12 (by decide +kernel) (by decide +kernel) (by rfl) (by rfl) ?_
   refine Se.so 3 (v := .slice (slA B n c) (m - n) (c - n)) hs rfl rfl rfl rfl rfl (by kernel_rfl) (by rw [RLen.out]; decide) ?_
   clear hs
   intro w hs
   simp only [List.cons_append, List.nil_append, List.set_cons_zero, List.set_cons_succ] at hs
   refine ⟨(Cell.blk 3 rfl (R7b.out _)) _ hs.hold, ?_⟩
   (try simp only [Act.put])
   change Or.AW _ _ _ _ _ 3 [13, 14, 15] _ _
   refine Or.pure 13 (v := ?_) (by rfl) (by decide +kernel) (by rfl) (by rfl) (by rfl) (fun wx hS => ?_) ?_; rotate_left; (focus (go_simp; (first | done | with_reducible rfl)))
   (try simp only [Act.put, List.setIfInBounds_toArray, List.set_cons_zero, List.set_cons_succ])
   change Or.AW _ _ _ _ _ 2 [14, 15] _ _
   refine Or.one 14 (by decide +kernel) (by decide +kernel) (by rfl) (by rfl) ?_
   refine Se.so 3 (v := iv (nb + n)) hs rfl rfl rfl rfl rfl (by kernel_rfl) (by (try simp only [List.length_set]); rw [RLen.out]; decide) ?_
   clear hs
   intro w hs
   simp only [List.cons_append, List.nil_append, List.set_cons_zero, List.set_cons_succ] at hs
   refine ⟨(Cell.blk 3 rfl (R7c.out _ _)) _ hs.hold, ?_⟩
   (try simp only [Act.put])
   change Or.AW _ _ _ _ _ 1 [15] _ _
   refine Or.pure 15 (v := ?_) (by rfl) (by decide +kernel) (by rfl) (by rfl) (by rfl) (fun wx hS => ?_) ?_; rotate_left; (focus (go_simp; (first | done | with_reducible rfl)))
   (try simp only [Act.put, List.setIfInBounds_toArray, List.set_cons_zero, List.set_cons_succ])
   change Or.AW _ _ _ _ _ 0 [] _ _
   refine Or.done ?_
   simp only [List.drop_succ_cons, List.drop_zero]
   go_wp2_with (first | ((with_reducible refine Se.isL (o := ⟨none, Op.store 3 _ _, _, _, _, _⟩) ?_); ((first | refine Se.toL rfl (Se.so 3 (v := .int _ _) hs rfl rfl rfl rfl rfl (by kernel_rfl) (by (try simp only [List.length_set]); rw [RLen.out]; decide) ?_) | refine Se.toL rfl (Se.so 3 (v := .bool _) hs rfl rfl rfl rfl rfl (by kernel_rfl) (by (try simp only [List.length_set]); rw [RLen.out]; decide) ?_) | refine Se.toL rfl (Se.so 3 (v := .slice _ _ _) hs rfl rfl rfl rfl rfl (by kernel_rfl) (by (try simp only [List.length_set]); rw [RLen.out]; decide) ?_) | refine Se.toL rfl (Se.so 3 (v := .pointer _) hs rfl rfl rfl rfl rfl (by kernel_rfl) (by (try simp only [List.length_set]); rw [RLen.out]; decide) ?_) | refine Se.toL rfl (Se.so 3 (v := .string _) hs rfl rfl rfl rfl rfl (by kernel_rfl) (by (try simp only [List.length_set]); rw [RLen.out]; decide) ?_) | refine Se.toL rfl (Se.so 3 (v := .map _) hs rfl rfl rfl rfl rfl (by kernel_rfl) (by (try simp only [List.length_set]); rw [RLen.out]; decide) ?_) | refine Se.toL rfl (Se.so 3 (v := .func _ _ _) hs rfl rfl rfl rfl rfl (by kernel_rfl) (by (try simp only [List.length_set]); rw [RLen.out]; decide) ?_) | refine Se.toL rfl (Se.so 3 (v := .nilFunc) hs rfl rfl rfl rfl rfl (by kernel_rfl) (by (try simp only [List.length_set]); rw [RLen.out]; decide) ?_)); clear hs; intro w hs; try simp only [List.cons_append, List.nil_append, List.set_cons_zero, List.set_cons_succ] at hs)))
   rw [HR2.out] at hs
   go_meet
   exact hs
  ·skip
   refine Se.ld hs rfl rfl (Cell.blk 3 rfl R6.out) (by kernel_rfl) ?_
   refine ⟨(Cell.blk 3 rfl R7.out) _ hs.hold, ?_⟩
   (try simp only [Act.put, List.setIfInBounds_toArray, List.set_cons_zero, List.set_cons_succ])
   change Or.AW _ _ _ _ _ 8 [1, 3, 7, 11, 12, 13, 14, 15] _ _
   refine Or.pure 7 (v := ?_) (by rfl) (by decide +kernel) (by rfl) (by rfl) (by rfl) (fun wx hS => ?_) ?_; rotate_left; (focus (go_simp; (first | done | with_reducible rfl)))
   (try simp only [Act.put, List.setIfInBounds_toArray, List.set_cons_zero, List.set_cons_succ])
   change Or.AW _ _ _ _ _ 7 [1, 3, 11, 12, 13, 14, 15] _ _
   refine Or.one 1 (by decide +kernel) (by decide +kernel) (by rfl) (by rfl) ?_
   refine Se.ld hs rfl rfl (Cell.blk 3 rfl R4.out) (by kernel_rfl) ?_
   refine ⟨(Cell.blk 3 rfl R7.out) _ hs.hold, ?_⟩
   (try simp only [Act.put, List.setIfInBounds_toArray, List.set_cons_zero, List.set_cons_succ])
   change Or.AW _ _ _ _ _ 6 [3, 11, 12, 13, 14, 15] _ _
   refine Or.pure 3 (v := .slice (slA B n c) (m - n) (c - n)) (by rfl) (by decide +kernel) (by rfl) (by rfl) (by rfl) (fun wx hS => (by unfold slA; go_simp)) ?_
   (try simp only [Act.put, List.setIfInBounds_toArray, List.set_cons_zero, List.set_cons_succ])
   change Or.AW _ _ _ _ _ 5 [11, 12, 13, 14, 15] _ _
   refine Or.pure 11 (v := ?_) (by rfl) (by decide +kernel) (by rfl) (by rfl) (by rfl) (fun wx hS => ?_) ?_; rotate_left; (focus (go_simp; (first | done | with_reducible rfl)))
   (try simp only [Act.put, List.setIfInBounds_toArray, List.set_cons_zero, List.set_cons_succ])
   change Or.AW _ _ _ _ _ 4 [12, 13, 14, 15] _ _
   refine Or.one 12 (by decide +kernel) (by decide +kernel) (by rfl) (by rfl) ?_
   refine Se.so 3 (v := .slice (slA B n c) (m - n) (c - n)) hs rfl rfl rfl rfl rfl (by kernel_rfl) (by rw [RLen.out]; decide) ?_
   clear hs
   intro w hs
   simp only [List.cons_append, List.nil_append, List.set_cons_zero, List.set_cons_succ] at hs
   refine ⟨(Cell.blk 3 rfl (R7b.out _)) _ hs.hold, ?_⟩
   (try simp only [Act.put])
   change Or.AW _ _ _ _ _ 3 [13, 14, 15] _ _
   refine Or.pure 13 (v := ?_) (by rfl) (by decide +kernel) (by rfl) (by rfl) (by rfl) (fun wx hS => ?_) ?_; rotate_left; (focus (go_simp; (first | done | with_reducible rfl)))
   (try simp only [Act.put, List.setIfInBounds_toArray, List.set_cons_zero, List.set_cons_succ])
   change Or.AW _ _ _ _ _ 2 [14, 15] _ _
   refine Or.one 14 (by decide +kernel) (by decide +kernel) (by rfl) (by rfl) ?_
   refine Se.so 3 (v := iv (nb + n)) hs rfl rfl rfl rfl rfl (by kernel_rfl) (by (try simp only [List.length_set]); rw [RLen.out]; decide) ?_
   clear hs
   intro w hs
   simp only [List.cons_append, List.nil_append, List.set_cons_zero, List.set_cons_succ] at hs
   refine ⟨(Cell.blk 3 rfl (R7c.out _ _)) _ hs.hold, ?_⟩
   (try simp only [Act.put])
   change Or.AW _ _ _ _ _ 1 [15] _ _
   refine Or.pure 15 (v := ?_) (by rfl) (by decide +kernel) (by rfl) (by rfl) (by rfl) (fun wx hS => ?_) ?_; rotate_left; (focus (go_simp; (first | done | with_reducible rfl)))
   (try simp only [Act.put, List.setIfInBounds_toArray, List.set_cons_zero, List.set_cons_succ])
   change Or.AW _ _ _ _ _ 0 [] _ _
   refine Or.done ?_
   simp only [List.drop_succ_cons, List.drop_zero]
   go_wp2_with (first | ((with_reducible refine Se.isL (o := ⟨none, Op.store 3 _ _, _, _, _, _⟩) ?_); ((first | refine Se.toL rfl (Se.so 3 (v := .int _ _) hs rfl rfl rfl rfl rfl (by kernel_rfl) (by (try simp only [List.length_set]); rw [RLen.out]; decide) ?_) | refine Se.toL rfl (Se.so 3 (v := .bool _) hs rfl rfl rfl rfl rfl (by kernel_rfl) (by (try simp only [List.length_set]); rw [RLen.out]; decide) ?_) | refine Se.toL rfl (Se.so 3 (v := .slice _ _ _) hs rfl rfl rfl rfl rfl (by kernel_rfl) (by (try simp only [List.length_set]); rw [RLen.out]; decide) ?_) | refine Se.toL rfl (Se.so 3 (v := .pointer _) hs rfl rfl rfl rfl rfl (by kernel_rfl) (by (try simp only [List.length_set]); rw [RLen.out]; decide) ?_) | refine Se.toL rfl (Se.so 3 (v := .string _) hs rfl rfl rfl rfl rfl (by kernel_rfl) (by (try simp only [List.length_set]); rw [RLen.out]; decide) ?_) | refine Se.toL rfl (Se.so 3 (v := .map _) hs rfl rfl rfl rfl rfl (by kernel_rfl) (by (try simp only [List.length_set]); rw [RLen.out]; decide) ?_) | refine Se.toL rfl (Se.so 3 (v := .func _ _ _) hs rfl rfl rfl rfl rfl (by kernel_rfl) (by (try simp only [List.length_set]); rw [RLen.out]; decide) ?_) | refine Se.toL rfl (Se.so 3 (v := .nilFunc) hs rfl rfl rfl rfl rfl (by kernel_rfl) (by (try simp only [List.length_set]); rw [RLen.out]; decide) ?_)); clear hs; intro w hs; try simp only [List.cons_append, List.nil_append, List.set_cons_zero, List.set_cons_succ] at hs)))
   rw [HR2.out] at hs
   go_meet
   exact hs
 case rest =>
 clear hs
 rename World => w
 have hs := hcut
 clear hcut
 simp only [List.cons_append, List.nil_append] at hs
 obtain ⟨A2, hA2⟩ : ∃ A2, A2 = slA B n c := ⟨_, rfl⟩
 rw [← hA2] at hs
 obtain ⟨RL2, hRL2⟩ : ∃ RL2, RL2 = rcl (eat s n) A2 (c - n) := ⟨_, rfl⟩
 rw [← hRL2] at hs
 have R2L := Lib.hid (show RL2.length = 8 by rw [hRL2]; rfl)
 have R2O := Lib.hid (show ∀ v ∈ RL2, v.oneCell' = true by rw [hRL2]; exact rcl_one _ _ _)
 have HRL2 := Lib.hid hRL2
 have HA2 := Lib.hid hA2
 clear hRL2 hA2 w1 w2
 go_upto_region 10 with (fail)
 refine Ch.region' 5 (fun wx => Blk wx g1 RL2 57 ∧ Blk wx g5 PC 41) (fun | 2 => true | 3 => true | _ => false) (by kernel_rfl) (by decide +kernel) (⟨hs.drew.hold (.blk g1 57 RL2) (by simp), hs.drew.hold (.blk g5 41 PC) (by simp)⟩) ?_
 replace hs := hs.drew
 generalize w.drew = w at hs ⊢
 change Ch.CW _ _ _ _ _ [0, 1, 2, 3, 4] _ _
 iterate 2 ((first | (refine Ch.pure (v := ?_) (by rfl) (by rfl) (by rfl) (fun wx hS => ?_) ?_; rotate_left; (focus (go_simp; (first | done | with_reducible rfl)))) | refine Ch.pure (v := _) (by rfl) (by rfl) (by rfl) (fun wx hS => Se.xla rfl rfl (Li.Rd.of_blk hS.1) (by rw [R2L.out] <;> kernel_rfl) (by kernel_rfl)) ?_ | refine Ch.pure (v := _) (by rfl) (by rfl) (by rfl) (fun wx hS => Se.xla rfl rfl (Li.Rd.of_blk hS.2) (by rw [PCL.out] <;> kernel_rfl) (by kernel_rfl)) ?_); (try simp only [Act.put, List.setIfInBounds_toArray, List.set_cons_zero, List.set_cons_succ]))
 refine Ch.noise (by rfl) (by rfl) (by rfl) (Se.sow 2 (vs := RL2) hs rfl rfl rfl rfl R2O.out (by rw [R2L.out] <;> kernel_rfl) (by rw [R2L.out, ZRL.out]) ?_)
 clear hs
 intro w hs
 simp only [List.cons_append, List.nil_append, List.set_cons_zero, List.set_cons_succ] at hs
 refine ⟨⟨hs.hold (.blk g1 57 RL2) (by simp), hs.hold (.blk g5 41 PC) (by simp)⟩, ?_⟩
 (try simp only [Act.put, List.setIfInBounds_toArray, List.set_cons_zero, List.set_cons_succ])
 refine Ch.noise (by rfl) (by rfl) (by rfl) (Se.sow 1 (vs := PC) hs rfl rfl rfl rfl PCO.out (by rw [PCL.out] <;> kernel_rfl) (by rw [PCL.out, ZL.out]) ?_)
 clear hs
 intro w hs
 simp only [List.cons_append, List.nil_append, List.set_cons_zero, List.set_cons_succ] at hs
 refine ⟨⟨hs.hold (.blk g1 57 RL2) (by simp), hs.hold (.blk g5 41 PC) (by simp)⟩, ?_⟩
 (try simp only [Act.put, List.setIfInBounds_toArray, List.set_cons_zero, List.set_cons_succ])
 iterate 1 ((first | (refine Ch.pure (v := ?_) (by rfl) (by rfl) (by rfl) (fun wx hS => ?_) ?_; rotate_left; (focus (go_simp; (first | done | with_reducible rfl))))); (try simp only [Act.put, List.setIfInBounds_toArray, List.set_cons_zero, List.set_cons_succ]))
 refine Ch.done ?_
 try simp only [List.drop_succ_cons, List.drop_zero]
 go_wp2_with fail
 refine Se.ret hs [.agg RL2.toArray, .agg PC.toArray, iv _] rfl ⟨Se.resRow rfl (Reads.blk 2 rfl) (by kernel_rfl) (by rw [R2L.out] <;> kernel_rfl), Se.resRow rfl (Reads.blk 1 rfl) (by kernel_rfl) (by rw [PCL.out] <;> kernel_rfl), rfl, trivial⟩ (by simp) rfl ?_
 refine ⟨RL2, A2, c - n, EA, ec, DA, dc, PC, rfl, HRL2, Lib.hid ?_, HPC, RE, RD, ?_⟩
 ·have h1 := HM.out
  have h2 := HC.out
  have h3 := hnm.out
  show (s.b.drop n).length ≤ c - n
  rw [List.length_drop]
  omega
 ·have h1 := HSUB.out _ hs.drop.drop.drop.drop
  rw [← HA2.out] at h1
  exact h1
end Sr
end Go.Proofs.Ytdngfcmakjlamaa


/- Layer 36: the next PDU of a receiver, of the program and of the reference. No condition but Go's own limits. Printed by wip/gen_strtake.py. -/
import Derived.Test.YtdngfcmakjlamaaStrRef
set_option linter.unusedSimpArgs false
set_option linter.unusedVariables false
namespace Go.Proofs.Ytdngfcmakjlamaa
open Go Go.RowKit
namespace Sr
open Pd (Fm PDU meas dec framed pc iv fl fv)
open Se (St At Reads Cell)
open Li (v8 v8_one Rd Blk Fr)
open Bv (n8 n16 n32 n64)
variable {w0 w : World} {X : List Nat} {L : List At} {s s' : Rc} {g c : Nat} {B : Option Addr} {r : Option Nat}
attribute [local irreducible] Calls
theorem zP0 : (Try.prog.info? 41).bind (fun i => i.zero.map (·.cells.toList)) = some (pc {} none 0 0 none 0 0) := by kernel_rfl
theorem pcl (P : List Value) {h : Pd.Hd} {EA DA : Option Addr} {en ec dn dc : Nat} (hP : P = pc h EA en ec DA dn dc) : P.length = 14 ∧ ∀ v ∈ P, v.oneCell' = true := by subst hP; exact ⟨rfl, Pd.pc_one _ _ _ _ _ _ _⟩
set_option maxRecDepth 100000 in
set_option maxHeartbeats 4000000 in
theorem take_st (hs : St w0 X (pR g s B c :: pO r B c s :: L) w) (hl : s.b.length ≤ 4194304) {p : PDU} {n e : Nat} (hr : takeE s = (p, n, e)) :
  Calls Try.prog 61 #[.pointer (some ⟨g, 0, none⟩)] w fun e' w' => ∃ r1 EA ec r2 DA dc PC, e' = .returned (.tuple #[.agg PC.toArray, iv n, iv e]) ∧ Hid (PC = pc p.h EA p.en.length ec DA p.da.length dc) ∧ St w0 X (.own 1 r1 EA p.en.length ec (p.en.map v8) :: .own 1 r2 DA p.da.length dc (p.da.map v8) :: pR g s B c :: pO r B c s :: L) w' := by
 obtain ⟨RL, hRL⟩ : ∃ RL, RL = rcl s B c := ⟨_, rfl⟩
 obtain ⟨m, hm0⟩ : ∃ m, m = s.b.length := ⟨_, rfl⟩
 obtain ⟨mo, hmo⟩ : ∃ m, m = s.mo := ⟨_, rfl⟩
 obtain ⟨F, hF⟩ : ∃ F, F = fl s.f := ⟨_, rfl⟩
 obtain ⟨⟨t, em⟩, hm⟩ : ∃ x, meas s.b s.f = x := ⟨_, rfl⟩
 obtain ⟨Z, hZ⟩ : ∃ Z, Z = pc {} none 0 0 none 0 0 := ⟨_, rfl⟩
 have FL := Lib.hid (show F.length = 3 by rw [hF]; rfl)
 have ZL := Lib.hid (show Z.length = 14 by rw [hZ]; rfl)
 have ZO := Lib.hid (show ∀ v ∈ Z, v.oneCell' = true by rw [hZ]; exact Pd.pc_one _ _ _ _ _ _ _)
 have HZ : Hid ((Try.prog.info? 41).bind (fun i => i.zero.map (·.cells.toList)) = some Z) := Lib.hid (by rw [hZ]; exact zP0)
 have BP : Hid (∀ w : World, (Instr.build 41 #[]).run Try.prog w = .ok (.agg Z.toArray) w) := Lib.hid (by rw [hZ]; exact bP0)
 have HZE := Lib.hid hZ
 have RLen := Lib.hid (show RL.length = 8 by rw [hRL]; rfl)
 have R3 := Lib.hid (show RL[3]? = some (iv mo) by rw [hRL, hmo]; rfl)
 have R4 := Lib.hid (show RL[4]? = some (.slice B m c) by rw [hRL, hm0]; rfl)
 have RF := Lib.hid (show RL.take 3 = F by rw [hRL, hF]; rfl)
 have RDF : Hid (∀ (g : Nat) (T : TypeId) (wx : World), Blk wx g RL T → Rd wx (some ⟨g, 0, none⟩) F) := Lib.hid (fun g T wx h => by
  have h2 := (Li.Rd.of_blk h).take 3
  rwa [RF.out] at h2)
 have hBr : ∀ M : List At, Reads (M ++ (pR g s B c :: pO r B c s :: L)) B (s.b.map v8) := fun M => (Reads.own 1 rfl).app M
 have hcc : m ≤ c := by rw [hm0]; exact Pd.own_le hs (List.mem_cons_of_mem _ List.mem_cons_self)
 have CM : Hid (∀ (M : List At) (w : World), St w0 X (M ++ (pR g s B c :: pO r B c s :: L)) w → Calls Try.prog 69 #[.slice B m c, .agg F.toArray] w fun e w' => e = .returned (.tuple #[iv t, iv em]) ∧ St w0 X (M ++ (pR g s B c :: pO r B c s :: L)) w') := Lib.hid (fun M w hs => by rw [hF, ← Pd.fv_eq]; exact Pd.measureD_st hs s.b s.f hm0 (hBr M) hcc (by omega) hm)
 have CD : Hid (∀ (M : List At) (w : World), t ≤ m → St w0 X (M ++ (pR g s B c :: pO r B c s :: L)) w → Calls Try.prog 70 #[.slice B t c, .agg F.toArray] w fun e w' => ∃ r1 EA ec r2 DA dc PC, e = .returned (.tuple #[.agg PC.toArray, iv (dec (s.b.take t) s.f).2]) ∧ Hid (PC = pc (dec (s.b.take t) s.f).1.h EA (dec (s.b.take t) s.f).1.en.length ec DA (dec (s.b.take t) s.f).1.da.length dc) ∧ St w0 X (.own 1 r1 EA (dec (s.b.take t) s.f).1.en.length ec ((dec (s.b.take t) s.f).1.en.map v8) :: .own 1 r2 DA (dec (s.b.take t) s.f).1.da.length dc ((dec (s.b.take t) s.f).1.da.map v8) :: (M ++ (pR g s B c :: pO r B c s :: L))) w') := Lib.hid (fun M w ht hs => by
  rw [hF, ← Pd.fv_eq]
  exact Pd.decodeN_st hs (s.b.take t) s.f (by rw [List.length_take]; omega) (by rw [List.map_take]; exact (hBr M).take t) (by omega) (by omega) rfl)
 have HTE : Hid (takeE s = if m < 8 then ({}, 0, 9) else if em ≠ 0 then ({}, 0, em) else if mo < t then ({}, 0, 5) else if m < t then ({}, 0, 9) else ((dec (s.b.take t) s.f).1, t, (dec (s.b.take t) s.f).2)) := Lib.hid (by unfold takeE; rw [hm, ← hm0, ← hmo])
 obtain ⟨D, hD⟩ : ∃ D, D = dec (s.b.take t) s.f := ⟨_, rfl⟩
 rw [← hD] at HTE CD
 have hml : m ≤ 4194304 := by omega
 have hcc2 : m ≤ c := by omega
 rw [hr] at HTE
 simp only [pR, pO] at hs CM CD ⊢
 rw [← hRL, ← hm0] at hs CM CD ⊢
 clear hRL hm0 hmo hF hm hZ hD hr hl hBr
 have HT2 := HTE.out
 clear HTE
 by_cases h8 : m < 8
 ·rw [if_pos h8] at HT2
  cases HT2
  have a1 : decide ((m : Int) < 8) = true := by simp; omega
  clear h8 CM CD
  go_enter Try.func61, Try.ntmps61
  go_wp2_with (first | ((with_reducible refine Se.isL (o := ⟨some 2, _, _, _, _, _⟩) ?_); (refine Se.toL rfl (Se.al (o := ⟨some 2, _, _, _, _, _⟩) hs rfl (HZ.out) ?_); clear hs; rintro w g2 - hs)) | ((with_reducible refine Se.isL (o := ⟨some 11, _, _, _, _, _⟩) ?_); (refine Se.toL rfl (Se.ld (o := ⟨some 11, _, _, _, _, _⟩) hs rfl rfl (Cell.blk 1 rfl R4.out) (by kernel_rfl) ?_))) | ((with_reducible refine Se.isL (o := ⟨some 14, _, _, _, _, _⟩) ?_); (refine Se.toL rfl (Se.bd (o := ⟨some 14, _, _, _, _, _⟩) rfl rfl (BP.out _) ?_))) | ((with_reducible refine Se.isL (o := ⟨none, _, _, _, _, _⟩) ?_); (refine Se.toL rfl (Se.sow 0 hs rfl rfl rfl rfl (ZO.out) ((by rw [ZL.out]; kernel_rfl)) ((by rw [ZL.out])) ?_); clear hs; intro w hs; try simp only [List.cons_append, List.nil_append, List.set_cons_zero] at hs)))
  refine Se.ret hs [.agg Z.toArray, iv 0, iv _] rfl ⟨Se.resRow rfl (Reads.blk 0 rfl) (by kernel_rfl) (by rw [ZL.out] <;> kernel_rfl), rfl, rfl, trivial⟩ (by simp) rfl ?_
  exact ⟨none, none, 0, none, none, 0, Z, rfl, HZE, (hs.drop.nil_own 1 none).nil_own 1 none⟩
 rw [if_neg h8] at HT2
 have a1 : decide ((m : Int) < 8) = false := by simp; omega
 clear h8
 by_cases h0 : em = 0
 rotate_left
 ·rw [if_pos h0] at HT2
  cases HT2
  have a2 := (int_ne h0).1
  clear h0 CD
  go_enter Try.func61, Try.ntmps61
  go_upto_region 3 with (first | ((with_reducible refine Se.isL (o := ⟨some 2, _, _, _, _, _⟩) ?_); (refine Se.toL rfl (Se.al (o := ⟨some 2, _, _, _, _, _⟩) hs rfl (HZ.out) ?_); clear hs; rintro w g2 - hs)) | ((with_reducible refine Se.isL (o := ⟨some 11, _, _, _, _, _⟩) ?_); (refine Se.toL rfl (Se.ld (o := ⟨some 11, _, _, _, _, _⟩) hs rfl rfl (Cell.blk 1 rfl R4.out) (by kernel_rfl) ?_))))
  refine Ch.region' 14 (fun wx => Blk wx g RL 67) (fun | 8 => true | _ => false) (by kernel_rfl) (by decide +kernel) (hs.drew.hold (.blk g 67 RL) (by simp)) ?_
  replace hs := hs.drew
  generalize w.drew = w at hs ⊢
  change Ch.CW _ _ _ _ _ [0, 1, 2, 3, 4, 5, 6, 7, 8, 9, 10, 11, 12, 13] _ _
  iterate 8 ((first | (refine Ch.pure (v := ?_) (by rfl) (by rfl) (by rfl) (fun wx hS => ?_) ?_; rotate_left; (focus (go_simp; (first | done | with_reducible rfl)))) | refine Ch.pure (v := _) (by rfl) (by rfl) (by rfl) (fun wx hS => Se.xl rfl rfl (by rw [hS.cell]; exact R4.out) (by decide +kernel)) ?_ | refine Ch.pure (v := _) (by rfl) (by rfl) (by rfl) (fun wx hS => Se.xla rfl rfl (RDF.out _ _ _ hS) (by rw [FL.out] <;> kernel_rfl) (by kernel_rfl)) ?_); (try simp only [Act.put, List.setIfInBounds_toArray, List.set_cons_zero, List.set_cons_succ]))
  refine Ch.noise (by rfl) (by rfl) (by rfl) ?_
  refine Se.gcall (f := 69) (args := #[.slice B m c, .agg F.toArray]) ?_ ?_
  ·go_simp
  refine Calls.mono (CM.out [_] _ hs) ?_
  clear hs
  rintro e w ⟨rfl, hs⟩
  refine ⟨_, rfl, hs.hold (.blk g 67 RL) (by simp), ?_⟩
  (try simp only [Act.put, List.setIfInBounds_toArray, List.set_cons_zero, List.set_cons_succ])
  iterate 5 ((first | (refine Ch.pure (v := ?_) (by rfl) (by rfl) (by rfl) (fun wx hS => ?_) ?_; rotate_left; (focus (go_simp; (first | done | with_reducible rfl))))); (try simp only [Act.put, List.setIfInBounds_toArray, List.set_cons_zero, List.set_cons_succ]))
  refine Ch.done ?_
  try simp only [List.drop_succ_cons, List.drop_zero]
  go_wp2_with (first | ((with_reducible refine Se.isL (o := ⟨some 37, _, _, _, _, _⟩) ?_); (refine Se.toL rfl (Se.ld (o := ⟨some 37, _, _, _, _, _⟩) hs rfl rfl (Cell.blk 1 rfl R3.out) (by kernel_rfl) ?_))) | ((with_reducible refine Se.isL (o := ⟨some 44, _, _, _, _, _⟩) ?_); (refine Se.toL rfl (Se.ld (o := ⟨some 44, _, _, _, _, _⟩) hs rfl rfl (Cell.blk 1 rfl R4.out) (by kernel_rfl) ?_))) | ((with_reducible refine Se.isL (o := ⟨some 30, _, _, _, _, _⟩) ?_); (refine Se.toL rfl (Se.bd (o := ⟨some 30, _, _, _, _, _⟩) rfl rfl (BP.out _) ?_))) | ((with_reducible refine Se.isL (o := ⟨none, _, _, _, _, _⟩) ?_); (refine Se.toL rfl (Se.sow 0 hs rfl rfl rfl rfl (ZO.out) ((by rw [ZL.out]; kernel_rfl)) ((by rw [ZL.out])) ?_); clear hs; intro w hs; try simp only [List.cons_append, List.nil_append, List.set_cons_zero] at hs)))
  refine Se.ret hs [.agg Z.toArray, iv 0, iv _] rfl ⟨Se.resRow rfl (Reads.blk 0 rfl) (by kernel_rfl) (by rw [ZL.out] <;> kernel_rfl), rfl, rfl, trivial⟩ (by simp) rfl ?_
  exact ⟨none, none, 0, none, none, 0, Z, rfl, HZE, (hs.drop.nil_own 1 none).nil_own 1 none⟩
 subst h0
 rw [if_neg (by decide)] at HT2
 by_cases h1 : mo < t
 ·rw [if_pos h1] at HT2
  cases HT2
  have a3 : decide (mo < t) = true := by simpa using h1
  have a3' : decide ((mo : Int) < (t : Int)) = true := by simpa using h1
  clear h1 CD
  go_enter Try.func61, Try.ntmps61
  go_upto_region 3 with (first | ((with_reducible refine Se.isL (o := ⟨some 2, _, _, _, _, _⟩) ?_); (refine Se.toL rfl (Se.al (o := ⟨some 2, _, _, _, _, _⟩) hs rfl (HZ.out) ?_); clear hs; rintro w g2 - hs)) | ((with_reducible refine Se.isL (o := ⟨some 11, _, _, _, _, _⟩) ?_); (refine Se.toL rfl (Se.ld (o := ⟨some 11, _, _, _, _, _⟩) hs rfl rfl (Cell.blk 1 rfl R4.out) (by kernel_rfl) ?_))))
  refine Ch.region' 14 (fun wx => Blk wx g RL 67) (fun | 8 => true | _ => false) (by kernel_rfl) (by decide +kernel) (hs.drew.hold (.blk g 67 RL) (by simp)) ?_
  replace hs := hs.drew
  generalize w.drew = w at hs ⊢
  change Ch.CW _ _ _ _ _ [0, 1, 2, 3, 4, 5, 6, 7, 8, 9, 10, 11, 12, 13] _ _
  iterate 8 ((first | (refine Ch.pure (v := ?_) (by rfl) (by rfl) (by rfl) (fun wx hS => ?_) ?_; rotate_left; (focus (go_simp; (first | done | with_reducible rfl)))) | refine Ch.pure (v := _) (by rfl) (by rfl) (by rfl) (fun wx hS => Se.xl rfl rfl (by rw [hS.cell]; exact R4.out) (by decide +kernel)) ?_ | refine Ch.pure (v := _) (by rfl) (by rfl) (by rfl) (fun wx hS => Se.xla rfl rfl (RDF.out _ _ _ hS) (by rw [FL.out] <;> kernel_rfl) (by kernel_rfl)) ?_); (try simp only [Act.put, List.setIfInBounds_toArray, List.set_cons_zero, List.set_cons_succ]))
  refine Ch.noise (by rfl) (by rfl) (by rfl) ?_
  refine Se.gcall (f := 69) (args := #[.slice B m c, .agg F.toArray]) ?_ ?_
  ·go_simp
  refine Calls.mono (CM.out [_] _ hs) ?_
  clear hs
  rintro e w ⟨rfl, hs⟩
  refine ⟨_, rfl, hs.hold (.blk g 67 RL) (by simp), ?_⟩
  (try simp only [Act.put, List.setIfInBounds_toArray, List.set_cons_zero, List.set_cons_succ])
  iterate 5 ((first | (refine Ch.pure (v := ?_) (by rfl) (by rfl) (by rfl) (fun wx hS => ?_) ?_; rotate_left; (focus (go_simp; (first | done | with_reducible rfl))))); (try simp only [Act.put, List.setIfInBounds_toArray, List.set_cons_zero, List.set_cons_succ]))
  refine Ch.done ?_
  try simp only [List.drop_succ_cons, List.drop_zero]
  go_wp2_with (first | ((with_reducible refine Se.isL (o := ⟨some 37, _, _, _, _, _⟩) ?_); (refine Se.toL rfl (Se.ld (o := ⟨some 37, _, _, _, _, _⟩) hs rfl rfl (Cell.blk 1 rfl R3.out) (by kernel_rfl) ?_))) | ((with_reducible refine Se.isL (o := ⟨some 44, _, _, _, _, _⟩) ?_); (refine Se.toL rfl (Se.ld (o := ⟨some 44, _, _, _, _, _⟩) hs rfl rfl (Cell.blk 1 rfl R4.out) (by kernel_rfl) ?_))) | ((with_reducible refine Se.isL (o := ⟨some 39, _, _, _, _, _⟩) ?_); (refine Se.toL rfl (Se.bd (o := ⟨some 39, _, _, _, _, _⟩) rfl rfl (BP.out _) ?_))) | ((with_reducible refine Se.isL (o := ⟨none, _, _, _, _, _⟩) ?_); (refine Se.toL rfl (Se.sow 0 hs rfl rfl rfl rfl (ZO.out) ((by rw [ZL.out]; kernel_rfl)) ((by rw [ZL.out])) ?_); clear hs; intro w hs; try simp only [List.cons_append, List.nil_append, List.set_cons_zero] at hs)))
  refine Se.ret hs [.agg Z.toArray, iv 0, iv _] rfl ⟨Se.resRow rfl (Reads.blk 0 rfl) (by kernel_rfl) (by rw [ZL.out] <;> kernel_rfl), rfl, rfl, trivial⟩ (by simp) rfl ?_
  exact ⟨none, none, 0, none, none, 0, Z, rfl, HZE, (hs.drop.nil_own 1 none).nil_own 1 none⟩
 rw [if_neg h1] at HT2
 have a3 : decide (mo < t) = false := by simpa using h1
 have a3' : decide ((mo : Int) < (t : Int)) = false := by simpa using h1
 clear h1
 by_cases h2 : m < t
 ·rw [if_pos h2] at HT2
  cases HT2
  have a4 : decide (m < t) = true := by simpa using h2
  have a4' : decide ((m : Int) < (t : Int)) = true := by simpa using h2
  clear h2 CD
  go_enter Try.func61, Try.ntmps61
  go_upto_region 3 with (first | ((with_reducible refine Se.isL (o := ⟨some 2, _, _, _, _, _⟩) ?_); (refine Se.toL rfl (Se.al (o := ⟨some 2, _, _, _, _, _⟩) hs rfl (HZ.out) ?_); clear hs; rintro w g2 - hs)) | ((with_reducible refine Se.isL (o := ⟨some 11, _, _, _, _, _⟩) ?_); (refine Se.toL rfl (Se.ld (o := ⟨some 11, _, _, _, _, _⟩) hs rfl rfl (Cell.blk 1 rfl R4.out) (by kernel_rfl) ?_))))
  refine Ch.region' 14 (fun wx => Blk wx g RL 67) (fun | 8 => true | _ => false) (by kernel_rfl) (by decide +kernel) (hs.drew.hold (.blk g 67 RL) (by simp)) ?_
  replace hs := hs.drew
  generalize w.drew = w at hs ⊢
  change Ch.CW _ _ _ _ _ [0, 1, 2, 3, 4, 5, 6, 7, 8, 9, 10, 11, 12, 13] _ _
  iterate 8 ((first | (refine Ch.pure (v := ?_) (by rfl) (by rfl) (by rfl) (fun wx hS => ?_) ?_; rotate_left; (focus (go_simp; (first | done | with_reducible rfl)))) | refine Ch.pure (v := _) (by rfl) (by rfl) (by rfl) (fun wx hS => Se.xl rfl rfl (by rw [hS.cell]; exact R4.out) (by decide +kernel)) ?_ | refine Ch.pure (v := _) (by rfl) (by rfl) (by rfl) (fun wx hS => Se.xla rfl rfl (RDF.out _ _ _ hS) (by rw [FL.out] <;> kernel_rfl) (by kernel_rfl)) ?_); (try simp only [Act.put, List.setIfInBounds_toArray, List.set_cons_zero, List.set_cons_succ]))
  refine Ch.noise (by rfl) (by rfl) (by rfl) ?_
  refine Se.gcall (f := 69) (args := #[.slice B m c, .agg F.toArray]) ?_ ?_
  ·go_simp
  refine Calls.mono (CM.out [_] _ hs) ?_
  clear hs
  rintro e w ⟨rfl, hs⟩
  refine ⟨_, rfl, hs.hold (.blk g 67 RL) (by simp), ?_⟩
  (try simp only [Act.put, List.setIfInBounds_toArray, List.set_cons_zero, List.set_cons_succ])
  iterate 5 ((first | (refine Ch.pure (v := ?_) (by rfl) (by rfl) (by rfl) (fun wx hS => ?_) ?_; rotate_left; (focus (go_simp; (first | done | with_reducible rfl))))); (try simp only [Act.put, List.setIfInBounds_toArray, List.set_cons_zero, List.set_cons_succ]))
  refine Ch.done ?_
  try simp only [List.drop_succ_cons, List.drop_zero]
  go_wp2_with (first | ((with_reducible refine Se.isL (o := ⟨some 37, _, _, _, _, _⟩) ?_); (refine Se.toL rfl (Se.ld (o := ⟨some 37, _, _, _, _, _⟩) hs rfl rfl (Cell.blk 1 rfl R3.out) (by kernel_rfl) ?_))) | ((with_reducible refine Se.isL (o := ⟨some 44, _, _, _, _, _⟩) ?_); (refine Se.toL rfl (Se.ld (o := ⟨some 44, _, _, _, _, _⟩) hs rfl rfl (Cell.blk 1 rfl R4.out) (by kernel_rfl) ?_))) | ((with_reducible refine Se.isL (o := ⟨some 48, _, _, _, _, _⟩) ?_); (refine Se.toL rfl (Se.bd (o := ⟨some 48, _, _, _, _, _⟩) rfl rfl (BP.out _) ?_))) | ((with_reducible refine Se.isL (o := ⟨none, _, _, _, _, _⟩) ?_); (refine Se.toL rfl (Se.sow 0 hs rfl rfl rfl rfl (ZO.out) ((by rw [ZL.out]; kernel_rfl)) ((by rw [ZL.out])) ?_); clear hs; intro w hs; try simp only [List.cons_append, List.nil_append, List.set_cons_zero] at hs)))
  refine Se.ret hs [.agg Z.toArray, iv 0, iv _] rfl ⟨Se.resRow rfl (Reads.blk 0 rfl) (by kernel_rfl) (by rw [ZL.out] <;> kernel_rfl), rfl, rfl, trivial⟩ (by simp) rfl ?_
  exact ⟨none, none, 0, none, none, 0, Z, rfl, HZE, (hs.drop.nil_own 1 none).nil_own 1 none⟩
 rw [if_neg h2] at HT2
 simp only [Prod.mk.injEq] at HT2
 obtain ⟨hp1, hp2, hp3⟩ := HT2
 replace hp2 := hp2.symm
 subst hp1 hp2 hp3
 have a4 : decide (m < t) = false := by simpa using h2
 have a4' : decide ((m : Int) < (t : Int)) = false := by simpa using h2
 have HTM := Lib.hid (show t ≤ m by omega)
 have b1 : (t : Int) ≤ (c : Int) := by have := HTM.out; omega
 have b2 : t ≤ c := by have := HTM.out; omega
 clear h2
 go_enter Try.func61, Try.ntmps61
 go_upto_region 3 with (first | ((with_reducible refine Se.isL (o := ⟨some 2, _, _, _, _, _⟩) ?_); (refine Se.toL rfl (Se.al (o := ⟨some 2, _, _, _, _, _⟩) hs rfl (HZ.out) ?_); clear hs; rintro w g2 - hs)) | ((with_reducible refine Se.isL (o := ⟨some 11, _, _, _, _, _⟩) ?_); (refine Se.toL rfl (Se.ld (o := ⟨some 11, _, _, _, _, _⟩) hs rfl rfl (Cell.blk 1 rfl R4.out) (by kernel_rfl) ?_))))
 refine Ch.region' 14 (fun wx => Blk wx g RL 67) (fun | 8 => true | _ => false) (by kernel_rfl) (by decide +kernel) (hs.drew.hold (.blk g 67 RL) (by simp)) ?_
 replace hs := hs.drew
 generalize w.drew = w at hs ⊢
 change Ch.CW _ _ _ _ _ [0, 1, 2, 3, 4, 5, 6, 7, 8, 9, 10, 11, 12, 13] _ _
 iterate 8 ((first | (refine Ch.pure (v := ?_) (by rfl) (by rfl) (by rfl) (fun wx hS => ?_) ?_; rotate_left; (focus (go_simp; (first | done | with_reducible rfl)))) | refine Ch.pure (v := _) (by rfl) (by rfl) (by rfl) (fun wx hS => Se.xl rfl rfl (by rw [hS.cell]; exact R4.out) (by decide +kernel)) ?_ | refine Ch.pure (v := _) (by rfl) (by rfl) (by rfl) (fun wx hS => Se.xla rfl rfl (RDF.out _ _ _ hS) (by rw [FL.out] <;> kernel_rfl) (by kernel_rfl)) ?_); (try simp only [Act.put, List.setIfInBounds_toArray, List.set_cons_zero, List.set_cons_succ]))
 refine Ch.noise (by rfl) (by rfl) (by rfl) ?_
 refine Se.gcall (f := 69) (args := #[.slice B m c, .agg F.toArray]) ?_ ?_
 ·go_simp
 refine Calls.mono (CM.out [_] _ hs) ?_
 clear hs
 rintro e w ⟨rfl, hs⟩
 refine ⟨_, rfl, hs.hold (.blk g 67 RL) (by simp), ?_⟩
 (try simp only [Act.put, List.setIfInBounds_toArray, List.set_cons_zero, List.set_cons_succ])
 iterate 5 ((first | (refine Ch.pure (v := ?_) (by rfl) (by rfl) (by rfl) (fun wx hS => ?_) ?_; rotate_left; (focus (go_simp; (first | done | with_reducible rfl))))); (try simp only [Act.put, List.setIfInBounds_toArray, List.set_cons_zero, List.set_cons_succ]))
 refine Ch.done ?_
 try simp only [List.drop_succ_cons, List.drop_zero]
 go_upto_region 10 with (first | ((with_reducible refine Se.isL (o := ⟨some 37, _, _, _, _, _⟩) ?_); (refine Se.toL rfl (Se.ld (o := ⟨some 37, _, _, _, _, _⟩) hs rfl rfl (Cell.blk 1 rfl R3.out) (by kernel_rfl) ?_))) | ((with_reducible refine Se.isL (o := ⟨some 44, _, _, _, _, _⟩) ?_); (refine Se.toL rfl (Se.ld (o := ⟨some 44, _, _, _, _, _⟩) hs rfl rfl (Cell.blk 1 rfl R4.out) (by kernel_rfl) ?_))))
 go_cut [7, 6] (fun s7 s6 wx => ∃ g7 r1 EA ec r2 DA dc PC, s7 = .pointer (some ⟨g7, 0, none⟩) ∧ s6 = iv D.2 ∧ Hid (PC = pc D.1.h EA D.1.en.length ec DA D.1.da.length dc) ∧ St w0 X ([.blk g7 41 PC, .own 1 r1 EA D.1.en.length ec (D.1.en.map v8), .own 1 r2 DA D.1.da.length dc (D.1.da.map v8), .blk g2 41 Z, .blk g 67 RL, .own 1 r B m c (s.b.map v8)] ++ L) wx)
 case first =>
  refine Or.region 17 (fun wx => Blk wx g RL 67) (fun | 10 => true | 14 => true | 15 => true | _ => false) (by kernel_rfl) (by decide +kernel) (hs.drew.hold (.blk g 67 RL) (by simp)) ?_
  replace hs := hs.drew
  generalize w.drew = w at hs ⊢
  change Or.AW _ _ _ _ _ 17 [0, 1, 2, 3, 4, 5, 6, 7, 8, 9, 10, 11, 12, 13, 14, 15, 16] _ _
  refine Or.pure 0 (v := ?_) (by rfl) (by decide +kernel) (by rfl) (by rfl) (by rfl) (fun wx hS => ?_) ?_; rotate_left; (focus (go_simp; (first | done | with_reducible rfl)))
  (try simp only [Act.put, List.setIfInBounds_toArray, List.set_cons_zero, List.set_cons_succ])
  change Or.AW _ _ _ _ _ 16 [1, 2, 3, 4, 5, 6, 7, 8, 9, 10, 11, 12, 13, 14, 15, 16] _ _
  refine Or.pure 1 (v := ?_) (by rfl) (by decide +kernel) (by rfl) (by rfl) (by rfl) (fun wx hS => ?_) ?_; rotate_left; (focus (go_simp; (first | done | with_reducible rfl)))
  (try simp only [Act.put, List.setIfInBounds_toArray, List.set_cons_zero, List.set_cons_succ])
  change Or.AW _ _ _ _ _ 15 [2, 3, 4, 5, 6, 7, 8, 9, 10, 11, 12, 13, 14, 15, 16] _ _
  refine Or.pure 2 (v := ?_) (by rfl) (by decide +kernel) (by rfl) (by rfl) (by rfl) (fun wx hS => ?_) ?_; rotate_left; (focus (go_simp; (first | done | with_reducible rfl)))
  (try simp only [Act.put, List.setIfInBounds_toArray, List.set_cons_zero, List.set_cons_succ])
  change Or.AW _ _ _ _ _ 14 [3, 4, 5, 6, 7, 8, 9, 10, 11, 12, 13, 14, 15, 16] _ _
  refine Or.pure 3 (v := .slice B m c) (by rfl) (by decide +kernel) (by rfl) (by rfl) (by rfl) (fun wx hS => Se.xl rfl rfl (by rw [hS.cell]; exact R4.out) (by decide +kernel)) ?_
  (try simp only [Act.put, List.setIfInBounds_toArray, List.set_cons_zero, List.set_cons_succ])
  change Or.AW _ _ _ _ _ 13 [4, 5, 6, 7, 8, 9, 10, 11, 12, 13, 14, 15, 16] _ _
  refine Or.pure 4 (v := ?_) (by rfl) (by decide +kernel) (by rfl) (by rfl) (by rfl) (fun wx hS => ?_) ?_; rotate_left; (focus (go_simp; (first | done | with_reducible rfl)))
  (try simp only [Act.put, List.setIfInBounds_toArray, List.set_cons_zero, List.set_cons_succ])
  change Or.AW _ _ _ _ _ 12 [5, 6, 7, 8, 9, 10, 11, 12, 13, 14, 15, 16] _ _
  refine Or.pure 5 (v := ?_) (by rfl) (by decide +kernel) (by rfl) (by rfl) (by rfl) (fun wx hS => ?_) ?_; rotate_left; (focus (go_simp; (first | done | with_reducible rfl)))
  (try simp only [Act.put, List.setIfInBounds_toArray, List.set_cons_zero, List.set_cons_succ])
  change Or.AW _ _ _ _ _ 11 [6, 7, 8, 9, 10, 11, 12, 13, 14, 15, 16] _ _
  refine Or.pure 6 (v := ?_) (by rfl) (by decide +kernel) (by rfl) (by rfl) (by rfl) (fun wx hS => ?_) ?_; rotate_left; (focus (go_simp; (first | done | with_reducible rfl)))
  (try simp only [Act.put, List.setIfInBounds_toArray, List.set_cons_zero, List.set_cons_succ])
  change Or.AW _ _ _ _ _ 10 [7, 8, 9, 10, 11, 12, 13, 14, 15, 16] _ _
  refine Or.pure 7 (v := ?_) (by rfl) (by decide +kernel) (by rfl) (by rfl) (by rfl) (fun wx hS => ?_) ?_; rotate_left; (focus (go_simp; (first | done | with_reducible rfl)))
  (try simp only [Act.put, List.setIfInBounds_toArray, List.set_cons_zero, List.set_cons_succ])
  change Or.AW _ _ _ _ _ 9 [8, 9, 10, 11, 12, 13, 14, 15, 16] _ _
  refine Or.pure 8 (v := ?_) (by rfl) (by decide +kernel) (by rfl) (by rfl) (by rfl) (fun wx hS => ?_) ?_; rotate_left; (focus (go_simp; (first | done | with_reducible rfl)))
  (try simp only [Act.put, List.setIfInBounds_toArray, List.set_cons_zero, List.set_cons_succ])
  change Or.AW _ _ _ _ _ 8 [9, 10, 11, 12, 13, 14, 15, 16] _ _
  refine Or.pure 9 (v := .agg F.toArray) (by rfl) (by decide +kernel) (by rfl) (by rfl) (by rfl) (fun wx hS => Se.xla rfl rfl (RDF.out _ _ _ hS) (by rw [FL.out] <;> kernel_rfl) (by kernel_rfl)) ?_
  (try simp only [Act.put, List.setIfInBounds_toArray, List.set_cons_zero, List.set_cons_succ])
  change Or.AW _ _ _ _ _ 7 [10, 11, 12, 13, 14, 15, 16] _ _
  refine Or.two 10 14 (by decide +kernel) (by decide +kernel) (by rfl) (by rfl) (by rfl) (by rfl) ?_ ?_
  ·skip
   refine Se.gcall (f := 70) (args := #[.slice B t c, .agg F.toArray]) ?_ ?_
   ·go_simp
   refine Calls.mono (CD.out [_] _ HTM.out hs) ?_
   clear hs
   rintro e w ⟨r1, EA, ec, r2, DA, dc, PC, rfl, HPC, hs⟩
   simp only [List.cons_append, List.nil_append] at hs
   refine ⟨_, rfl, hs.hold (.blk g 67 RL) (by simp), ?_⟩
   have PCL := Lib.hid (pcl PC HPC.out).1
   have PCO := Lib.hid (pcl PC HPC.out).2
   (try simp only [Act.put, List.setIfInBounds_toArray, List.set_cons_zero, List.set_cons_succ])
   change Or.AW _ _ _ _ _ 6 [11, 12, 13, 14, 15, 16] _ _
   refine Or.pure 11 (v := ?_) (by rfl) (by decide +kernel) (by rfl) (by rfl) (by rfl) (fun wx hS => ?_) ?_; rotate_left; (focus (go_simp; (first | done | with_reducible rfl)))
   (try simp only [Act.put, List.setIfInBounds_toArray, List.set_cons_zero, List.set_cons_succ])
   change Or.AW _ _ _ _ _ 5 [12, 13, 14, 15, 16] _ _
   refine Or.pure 12 (v := ?_) (by rfl) (by decide +kernel) (by rfl) (by rfl) (by rfl) (fun wx hS => ?_) ?_; rotate_left; (focus (go_simp; (first | done | with_reducible rfl)))
   (try simp only [Act.put, List.setIfInBounds_toArray, List.set_cons_zero, List.set_cons_succ])
   change Or.AW _ _ _ _ _ 4 [13, 14, 15, 16] _ _
   refine Or.pure 13 (v := ?_) (by rfl) (by decide +kernel) (by rfl) (by rfl) (by rfl) (fun wx hS => ?_) ?_; rotate_left; (focus (go_simp; (first | done | with_reducible rfl)))
   (try simp only [Act.put, List.setIfInBounds_toArray, List.set_cons_zero, List.set_cons_succ])
   change Or.AW _ _ _ _ _ 3 [14, 15, 16] _ _
   refine Or.one 14 (by decide +kernel) (by decide +kernel) (by rfl) (by rfl) ?_
   refine Se.al hs rfl HZ.out ?_
   clear hs
   rintro w g7 - hs
   refine ⟨hs.hold (.blk g 67 RL) (by simp), ?_⟩
   (try simp only [Act.put, List.setIfInBounds_toArray, List.set_cons_zero, List.set_cons_succ])
   change Or.AW _ _ _ _ _ 2 [15, 16] _ _
   refine Or.one 15 (by decide +kernel) (by decide +kernel) (by rfl) (by rfl) ?_
   refine Se.sow 0 (vs := PC) hs rfl rfl rfl rfl PCO.out (by rw [PCL.out] <;> kernel_rfl) (by rw [PCL.out, ZL.out]) ?_
   clear hs
   intro w hs
   simp only [List.cons_append, List.nil_append, List.set_cons_zero, List.set_cons_succ] at hs
   refine ⟨hs.hold (.blk g 67 RL) (by simp), ?_⟩
   (try simp only [Act.put])
   change Or.AW _ _ _ _ _ 1 [16] _ _
   refine Or.pure 16 (v := ?_) (by rfl) (by decide +kernel) (by rfl) (by rfl) (by rfl) (fun wx hS => ?_) ?_; rotate_left; (focus (go_simp; (first | done | with_reducible rfl)))
   (try simp only [Act.put, List.setIfInBounds_toArray, List.set_cons_zero, List.set_cons_succ])
   change Or.AW _ _ _ _ _ 0 [] _ _
   refine Or.done ?_
   simp only [List.drop_succ_cons, List.drop_zero]
   go_wp2_with fail
   go_meet
   exact ⟨g7, r1, EA, ec, r2, DA, dc, PC, rfl, rfl, HPC, hs⟩
  ·skip
   refine Se.al hs rfl HZ.out ?_
   clear hs
   rintro w g7 - hs
   refine ⟨hs.hold (.blk g 67 RL) (by simp), ?_⟩
   (try simp only [Act.put, List.setIfInBounds_toArray, List.set_cons_zero, List.set_cons_succ])
   change Or.AW _ _ _ _ _ 6 [10, 11, 12, 13, 15, 16] _ _
   refine Or.one 10 (by decide +kernel) (by decide +kernel) (by rfl) (by rfl) ?_
   refine Se.gcall (f := 70) (args := #[.slice B t c, .agg F.toArray]) ?_ ?_
   ·go_simp
   refine Calls.mono (CD.out [_, _] _ HTM.out hs) ?_
   clear hs
   rintro e w ⟨r1, EA, ec, r2, DA, dc, PC, rfl, HPC, hs⟩
   simp only [List.cons_append, List.nil_append] at hs
   refine ⟨_, rfl, hs.hold (.blk g 67 RL) (by simp), ?_⟩
   have PCL := Lib.hid (pcl PC HPC.out).1
   have PCO := Lib.hid (pcl PC HPC.out).2
   (try simp only [Act.put, List.setIfInBounds_toArray, List.set_cons_zero, List.set_cons_succ])
   change Or.AW _ _ _ _ _ 5 [11, 12, 13, 15, 16] _ _
   refine Or.pure 11 (v := ?_) (by rfl) (by decide +kernel) (by rfl) (by rfl) (by rfl) (fun wx hS => ?_) ?_; rotate_left; (focus (go_simp; (first | done | with_reducible rfl)))
   (try simp only [Act.put, List.setIfInBounds_toArray, List.set_cons_zero, List.set_cons_succ])
   change Or.AW _ _ _ _ _ 4 [12, 13, 15, 16] _ _
   refine Or.pure 12 (v := ?_) (by rfl) (by decide +kernel) (by rfl) (by rfl) (by rfl) (fun wx hS => ?_) ?_; rotate_left; (focus (go_simp; (first | done | with_reducible rfl)))
   (try simp only [Act.put, List.setIfInBounds_toArray, List.set_cons_zero, List.set_cons_succ])
   change Or.AW _ _ _ _ _ 3 [13, 15, 16] _ _
   refine Or.pure 13 (v := ?_) (by rfl) (by decide +kernel) (by rfl) (by rfl) (by rfl) (fun wx hS => ?_) ?_; rotate_left; (focus (go_simp; (first | done | with_reducible rfl)))
   (try simp only [Act.put, List.setIfInBounds_toArray, List.set_cons_zero, List.set_cons_succ])
   change Or.AW _ _ _ _ _ 2 [15, 16] _ _
   refine Or.one 15 (by decide +kernel) (by decide +kernel) (by rfl) (by rfl) ?_
   refine Se.sow 2 (vs := PC) hs rfl rfl rfl rfl PCO.out (by rw [PCL.out] <;> kernel_rfl) (by rw [PCL.out, ZL.out]) ?_
   clear hs
   intro w hs
   simp only [List.cons_append, List.nil_append, List.set_cons_zero, List.set_cons_succ] at hs
   refine ⟨hs.hold (.blk g 67 RL) (by simp), ?_⟩
   (try simp only [Act.put])
   change Or.AW _ _ _ _ _ 1 [16] _ _
   refine Or.pure 16 (v := ?_) (by rfl) (by decide +kernel) (by rfl) (by rfl) (by rfl) (fun wx hS => ?_) ?_; rotate_left; (focus (go_simp; (first | done | with_reducible rfl)))
   (try simp only [Act.put, List.setIfInBounds_toArray, List.set_cons_zero, List.set_cons_succ])
   change Or.AW _ _ _ _ _ 0 [] _ _
   refine Or.done ?_
   simp only [List.drop_succ_cons, List.drop_zero]
   go_wp2_with fail
   go_meet
   replace hs := hs.pull 1 rfl
   replace hs := hs.pull 1 rfl
   replace hs := hs.pull 2 rfl
   simp only [List.eraseIdx_cons_succ, List.eraseIdx_cons_zero] at hs
   exact ⟨g7, r1, EA, ec, r2, DA, dc, PC, rfl, rfl, HPC, hs⟩
 case rest =>
 clear hs
 obtain ⟨g7, r1, EA, ec, r2, DA, dc, PC, rfl, rfl, HPC, hs⟩ := hcut
 rename World => w
 have PCL := Lib.hid (pcl PC HPC.out).1
 have PCO := Lib.hid (pcl PC HPC.out).2
 go_wp2_with (first | ((with_reducible refine Se.isL (o := ⟨some 63, _, _, _, _, _⟩) ?_); (refine Se.toL rfl (Se.ldw (o := ⟨some 63, _, _, _, _, _⟩) hs rfl rfl ((Reads.blk 0 rfl)) ((by rw [PCL.out]; kernel_rfl)) (by kernel_rfl) ?_))) | ((with_reducible refine Se.isL (o := ⟨none, _, _, _, _, _⟩) ?_); (refine Se.toL rfl (Se.sow 3 hs rfl rfl rfl rfl (PCO.out) ((by rw [PCL.out]; kernel_rfl)) ((by rw [PCL.out, ZL.out])) ?_); clear hs; intro w hs; try simp only [List.cons_append, List.nil_append, List.set_cons_zero, List.set_cons_succ] at hs)))
 refine Se.ret hs [.agg PC.toArray, iv t, iv _] rfl ⟨Se.resRow rfl (Reads.blk 3 rfl) (by kernel_rfl) (by rw [PCL.out] <;> kernel_rfl), rfl, rfl, trivial⟩ (by simp) rfl ?_
 exact ⟨r1, EA, ec, r2, DA, dc, PC, rfl, HPC, hs.drop.sub (List.Sublist.cons_cons _ (List.Sublist.cons_cons _ (.cons _ (List.Sublist.refl _))))⟩
theorem rDecodeK_st (M : List At) (hs : St w0 X (M ++ L) w) (bs : List (BitVec 8)) (f : Fm) {S : Option Addr} {n c : Nat} (hn : n = bs.length) (hS : Reads L S (bs.map v8)) (hc : n ≤ c) (hle : n ≤ 70368744177664) {P : PDU} {e : Nat} (hd : dec bs f = (P, e)) :
  Calls Try.prog 72 #[.slice S n c, fv f] w fun r w' => ∃ EA ec DA dc PC, r = .returned (.tuple #[.agg PC.toArray, iv e]) ∧ Hid (PC = pc P.h EA P.en.length ec DA P.da.length dc) ∧ Hid (Reads L EA (P.en.map v8)) ∧ Hid (Reads L DA (P.da.map v8)) ∧ St w0 X (M ++ L) w' := by
 have h0 : St w [] [.rd S (bs.map v8)] w := Pd.rd1 ((hS.app M) w hs.hold)
 have up : ∀ {A : Option Addr} {xs : List Value}, Reads [.rd S (bs.map v8)] A xs → Reads L A xs := fun h w' hw => h w' (by
  intro a ha
  simp only [List.mem_singleton] at ha
  subst ha
  exact hS w' hw)
 refine (Pd.rDecodeN_st h0 bs f hn (Reads.rd 0 rfl) hc hle hd).mono ?_
 rintro r w' ⟨EA, ec, DA, dc, PC, h1, h2, h3, h4, h5⟩
 exact ⟨EA, ec, DA, dc, PC, h1, h2, Lib.hid (up h3.out), Lib.hid (up h4.out), hs.ext h5.below⟩
set_option maxRecDepth 100000 in
set_option maxHeartbeats 4000000 in
theorem rtake_st (hs : St w0 X L w) (hB : Reads L B (s.b.map v8)) (hc : s.b.length ≤ c) (hl : s.b.length ≤ 4194304) {p : PDU} {n e : Nat} (hr : takeE s = (p, n, e)) :
  Calls Try.prog 62 #[.agg (rcl s B c).toArray] w fun e' w' => ∃ EA ec DA dc PC, e' = .returned (.tuple #[.agg PC.toArray, iv n, iv e]) ∧ Hid (PC = pc p.h EA p.en.length ec DA p.da.length dc) ∧ Hid (Reads L EA (p.en.map v8)) ∧ Hid (Reads L DA (p.da.map v8)) ∧ St w0 X L w' := by
 obtain ⟨RL, hRL⟩ : ∃ RL, RL = rcl s B c := ⟨_, rfl⟩
 obtain ⟨m, hm0⟩ : ∃ m, m = s.b.length := ⟨_, rfl⟩
 obtain ⟨mo, hmo⟩ : ∃ m, m = s.mo := ⟨_, rfl⟩
 obtain ⟨F, hF⟩ : ∃ F, F = fl s.f := ⟨_, rfl⟩
 obtain ⟨⟨t, em⟩, hm⟩ : ∃ x, meas s.b s.f = x := ⟨_, rfl⟩
 obtain ⟨Z, hZ⟩ : ∃ Z, Z = pc {} none 0 0 none 0 0 := ⟨_, rfl⟩
 have FL := Lib.hid (show F.length = 3 by rw [hF]; rfl)
 have ZL := Lib.hid (show Z.length = 14 by rw [hZ]; rfl)
 have ZO := Lib.hid (show ∀ v ∈ Z, v.oneCell' = true by rw [hZ]; exact Pd.pc_one _ _ _ _ _ _ _)
 have HZ : Hid ((Try.prog.info? 41).bind (fun i => i.zero.map (·.cells.toList)) = some Z) := Lib.hid (by rw [hZ]; exact zP0)
 have BP : Hid (∀ w : World, (Instr.build 41 #[]).run Try.prog w = .ok (.agg Z.toArray) w) := Lib.hid (by rw [hZ]; exact bP0)
 have HZE := Lib.hid hZ
 have RLen := Lib.hid (show RL.length = 8 by rw [hRL]; rfl)
 have R3 := Lib.hid (show RL[3]? = some (iv mo) by rw [hRL, hmo]; rfl)
 have R4 := Lib.hid (show RL[4]? = some (.slice B m c) by rw [hRL, hm0]; rfl)
 have RF := Lib.hid (show RL.take 3 = F by rw [hRL, hF]; rfl)
 have RDF : Hid (∀ (g : Nat) (T : TypeId) (wx : World), Blk wx g RL T → Rd wx (some ⟨g, 0, none⟩) F) := Lib.hid (fun g T wx h => by
  have h2 := (Li.Rd.of_blk h).take 3
  rwa [RF.out] at h2)
 have CM : Hid (∀ (M : List At) (w : World), St w0 X (M ++ L) w → Calls Try.prog 71 #[.slice B m c, .agg F.toArray] w fun e w' => e = .returned (.tuple #[iv t, iv em]) ∧ St w0 X (M ++ L) w') := Lib.hid (fun M w hs => by rw [hF, ← Pd.fv_eq]; exact Pd.rMeasure_st hs s.b s.f hm0 (hB.app M) (by omega) (by omega) hm)
 have CD : Hid (∀ (M : List At) (w : World), t ≤ m → St w0 X (M ++ L) w → Calls Try.prog 72 #[.slice B t c, .agg F.toArray] w fun e w' => ∃ EA ec DA dc PC, e = .returned (.tuple #[.agg PC.toArray, iv (dec (s.b.take t) s.f).2]) ∧ Hid (PC = pc (dec (s.b.take t) s.f).1.h EA (dec (s.b.take t) s.f).1.en.length ec DA (dec (s.b.take t) s.f).1.da.length dc) ∧ Hid (Reads L EA ((dec (s.b.take t) s.f).1.en.map v8)) ∧ Hid (Reads L DA ((dec (s.b.take t) s.f).1.da.map v8)) ∧ St w0 X (M ++ L) w') := Lib.hid (fun M w ht hs => by
  rw [hF, ← Pd.fv_eq]
  exact rDecodeK_st M hs (s.b.take t) s.f (by rw [List.length_take]; omega) (by rw [List.map_take]; exact hB.take t) (by omega) (by omega) rfl)
 have HTE : Hid (takeE s = if m < 8 then ({}, 0, 9) else if em ≠ 0 then ({}, 0, em) else if mo < t then ({}, 0, 5) else if m < t then ({}, 0, 9) else ((dec (s.b.take t) s.f).1, t, (dec (s.b.take t) s.f).2)) := Lib.hid (by unfold takeE; rw [hm, ← hm0, ← hmo])
 obtain ⟨D, hD⟩ : ∃ D, D = dec (s.b.take t) s.f := ⟨_, rfl⟩
 rw [← hD] at HTE CD
 have hml : m ≤ 4194304 := by omega
 have hcc2 : m ≤ c := by omega
 rw [hr] at HTE
 rw [← hRL]
 clear hRL hm0 hmo hF hm hZ hD hr hl
 have HT2 := HTE.out
 clear HTE
 by_cases h8 : m < 8
 ·rw [if_pos h8] at HT2
  cases HT2
  have a1 : decide ((m : Int) < 8) = true := by simp; omega
  clear h8 CM CD
  go_enter Try.func62, Try.ntmps62
  go_wp2_with (first | ((with_reducible refine Se.isL (o := ⟨some 2, _, _, _, _, _⟩) ?_); (refine Se.toL rfl (Se.al (o := ⟨some 2, _, _, _, _, _⟩) hs rfl (HZ.out) ?_); clear hs; rintro w g2 - hs)) | ((with_reducible refine Se.isL (o := ⟨some 10, _, _, _, _, _⟩) ?_); (refine Se.toL rfl (Se.ld (o := ⟨some 10, _, _, _, _, _⟩) hs rfl rfl (Cell.blk 1 rfl R4.out) (by kernel_rfl) ?_))) | ((with_reducible refine Se.isL (o := ⟨some 13, _, _, _, _, _⟩) ?_); (refine Se.toL rfl (Se.bd (o := ⟨some 13, _, _, _, _, _⟩) rfl rfl (BP.out _) ?_))) | ((with_reducible refine Se.isL (o := ⟨none, _, _, _, _, _⟩) ?_); (refine Se.toL rfl (Se.sow 0 hs rfl rfl rfl rfl (ZO.out) ((by rw [ZL.out]; kernel_rfl)) ((by rw [ZL.out])) ?_); clear hs; intro w hs; try simp only [List.cons_append, List.nil_append, List.set_cons_zero] at hs)) | ((first | with_reducible refine Se.ab hs ?_ | with_reducible refine Se.abc hs ?_); clear hs; (first | (generalize w.heap.size = g1; intro w hs))))
  refine Se.ret hs [.agg Z.toArray, iv 0, iv _] rfl ⟨Se.resRow rfl (Reads.blk 0 rfl) (by kernel_rfl) (by rw [ZL.out] <;> kernel_rfl), rfl, rfl, trivial⟩ (by simp) rfl ?_
  exact ⟨none, 0, none, 0, Z, rfl, HZE, Lib.hid Reads.nil, Lib.hid Reads.nil, hs.drop.drop⟩
 rw [if_neg h8] at HT2
 have a1 : decide ((m : Int) < 8) = false := by simp; omega
 clear h8
 by_cases h0 : em = 0
 rotate_left
 ·rw [if_pos h0] at HT2
  cases HT2
  have a2 := (int_ne h0).1
  clear h0 CD
  go_enter Try.func62, Try.ntmps62
  go_upto_region 3 with (first | ((with_reducible refine Se.isL (o := ⟨some 2, _, _, _, _, _⟩) ?_); (refine Se.toL rfl (Se.al (o := ⟨some 2, _, _, _, _, _⟩) hs rfl (HZ.out) ?_); clear hs; rintro w g2 - hs)) | ((with_reducible refine Se.isL (o := ⟨some 10, _, _, _, _, _⟩) ?_); (refine Se.toL rfl (Se.ld (o := ⟨some 10, _, _, _, _, _⟩) hs rfl rfl (Cell.blk 1 rfl R4.out) (by kernel_rfl) ?_))) | ((first | with_reducible refine Se.ab hs ?_ | with_reducible refine Se.abc hs ?_); clear hs; (first | (generalize w.heap.size = g1; intro w hs))))
  have RDR := Lib.hid (show Reads (.blk g2 41 Z :: .blk g1 57 RL :: L) (some ⟨g1, 0, none⟩) F from fun wx hw => RDF.out _ _ _ (hw (.blk g1 57 RL) (by simp)))
  go_upto_region 4 with (first | ((with_reducible refine Se.isL (o := ⟨some 16, _, _, _, _, _⟩) ?_); (refine Se.toL rfl (Se.ld (o := ⟨some 16, _, _, _, _, _⟩) hs rfl rfl (Cell.blk 1 rfl R4.out) (by kernel_rfl) ?_))) | ((with_reducible refine Se.isL (o := ⟨some 18, _, _, _, _, _⟩) ?_); (refine Se.toL rfl (Se.ldw (o := ⟨some 18, _, _, _, _, _⟩) hs rfl rfl (RDR.out) ((by rw [FL.out]; kernel_rfl)) (by kernel_rfl) ?_))) | (go_at_call 71; refine Calls.mono (CM.out [_, _] _ hs) ?_; clear hs; rintro e w ⟨rfl, hs⟩))
  go_wp2_with (first | ((with_reducible refine Se.isL (o := ⟨some 28, _, _, _, _, _⟩) ?_); (refine Se.toL rfl (Se.ld (o := ⟨some 28, _, _, _, _, _⟩) hs rfl rfl (Cell.blk 1 rfl R3.out) (by kernel_rfl) ?_))) | ((with_reducible refine Se.isL (o := ⟨some 33, _, _, _, _, _⟩) ?_); (refine Se.toL rfl (Se.ld (o := ⟨some 33, _, _, _, _, _⟩) hs rfl rfl (Cell.blk 1 rfl R4.out) (by kernel_rfl) ?_))) | ((with_reducible refine Se.isL (o := ⟨some 24, _, _, _, _, _⟩) ?_); (refine Se.toL rfl (Se.bd (o := ⟨some 24, _, _, _, _, _⟩) rfl rfl (BP.out _) ?_))) | ((with_reducible refine Se.isL (o := ⟨none, _, _, _, _, _⟩) ?_); (refine Se.toL rfl (Se.sow 0 hs rfl rfl rfl rfl (ZO.out) ((by rw [ZL.out]; kernel_rfl)) ((by rw [ZL.out])) ?_); clear hs; intro w hs; try simp only [List.cons_append, List.nil_append, List.set_cons_zero] at hs)))
  refine Se.ret hs [.agg Z.toArray, iv 0, iv _] rfl ⟨Se.resRow rfl (Reads.blk 0 rfl) (by kernel_rfl) (by rw [ZL.out] <;> kernel_rfl), rfl, rfl, trivial⟩ (by simp) rfl ?_
  exact ⟨none, 0, none, 0, Z, rfl, HZE, Lib.hid Reads.nil, Lib.hid Reads.nil, hs.drop.drop⟩
 subst h0
 rw [if_neg (by decide)] at HT2
 by_cases h1 : mo < t
 ·rw [if_pos h1] at HT2
  cases HT2
  have a3 : decide (mo < t) = true := by simpa using h1
  have a3' : decide ((mo : Int) < (t : Int)) = true := by simpa using h1
  clear h1 CD
  go_enter Try.func62, Try.ntmps62
  go_upto_region 3 with (first | ((with_reducible refine Se.isL (o := ⟨some 2, _, _, _, _, _⟩) ?_); (refine Se.toL rfl (Se.al (o := ⟨some 2, _, _, _, _, _⟩) hs rfl (HZ.out) ?_); clear hs; rintro w g2 - hs)) | ((with_reducible refine Se.isL (o := ⟨some 10, _, _, _, _, _⟩) ?_); (refine Se.toL rfl (Se.ld (o := ⟨some 10, _, _, _, _, _⟩) hs rfl rfl (Cell.blk 1 rfl R4.out) (by kernel_rfl) ?_))) | ((first | with_reducible refine Se.ab hs ?_ | with_reducible refine Se.abc hs ?_); clear hs; (first | (generalize w.heap.size = g1; intro w hs))))
  have RDR := Lib.hid (show Reads (.blk g2 41 Z :: .blk g1 57 RL :: L) (some ⟨g1, 0, none⟩) F from fun wx hw => RDF.out _ _ _ (hw (.blk g1 57 RL) (by simp)))
  go_upto_region 4 with (first | ((with_reducible refine Se.isL (o := ⟨some 16, _, _, _, _, _⟩) ?_); (refine Se.toL rfl (Se.ld (o := ⟨some 16, _, _, _, _, _⟩) hs rfl rfl (Cell.blk 1 rfl R4.out) (by kernel_rfl) ?_))) | ((with_reducible refine Se.isL (o := ⟨some 18, _, _, _, _, _⟩) ?_); (refine Se.toL rfl (Se.ldw (o := ⟨some 18, _, _, _, _, _⟩) hs rfl rfl (RDR.out) ((by rw [FL.out]; kernel_rfl)) (by kernel_rfl) ?_))) | (go_at_call 71; refine Calls.mono (CM.out [_, _] _ hs) ?_; clear hs; rintro e w ⟨rfl, hs⟩))
  go_wp2_with (first | ((with_reducible refine Se.isL (o := ⟨some 28, _, _, _, _, _⟩) ?_); (refine Se.toL rfl (Se.ld (o := ⟨some 28, _, _, _, _, _⟩) hs rfl rfl (Cell.blk 1 rfl R3.out) (by kernel_rfl) ?_))) | ((with_reducible refine Se.isL (o := ⟨some 33, _, _, _, _, _⟩) ?_); (refine Se.toL rfl (Se.ld (o := ⟨some 33, _, _, _, _, _⟩) hs rfl rfl (Cell.blk 1 rfl R4.out) (by kernel_rfl) ?_))) | ((with_reducible refine Se.isL (o := ⟨some 30, _, _, _, _, _⟩) ?_); (refine Se.toL rfl (Se.bd (o := ⟨some 30, _, _, _, _, _⟩) rfl rfl (BP.out _) ?_))) | ((with_reducible refine Se.isL (o := ⟨none, _, _, _, _, _⟩) ?_); (refine Se.toL rfl (Se.sow 0 hs rfl rfl rfl rfl (ZO.out) ((by rw [ZL.out]; kernel_rfl)) ((by rw [ZL.out])) ?_); clear hs; intro w hs; try simp only [List.cons_append, List.nil_append, List.set_cons_zero] at hs)))
  refine Se.ret hs [.agg Z.toArray, iv 0, iv _] rfl ⟨Se.resRow rfl (Reads.blk 0 rfl) (by kernel_rfl) (by rw [ZL.out] <;> kernel_rfl), rfl, rfl, trivial⟩ (by simp) rfl ?_
  exact ⟨none, 0, none, 0, Z, rfl, HZE, Lib.hid Reads.nil, Lib.hid Reads.nil, hs.drop.drop⟩
 rw [if_neg h1] at HT2
 have a3 : decide (mo < t) = false := by simpa using h1
 have a3' : decide ((mo : Int) < (t : Int)) = false := by simpa using h1
 clear h1
 by_cases h2 : m < t
 ·rw [if_pos h2] at HT2
  cases HT2
  have a4 : decide (m < t) = true := by simpa using h2
  have a4' : decide ((m : Int) < (t : Int)) = true := by simpa using h2
  clear h2 CD
  go_enter Try.func62, Try.ntmps62
  go_upto_region 3 with (first | ((with_reducible refine Se.isL (o := ⟨some 2, _, _, _, _, _⟩) ?_); (refine Se.toL rfl (Se.al (o := ⟨some 2, _, _, _, _, _⟩) hs rfl (HZ.out) ?_); clear hs; rintro w g2 - hs)) | ((with_reducible refine Se.isL (o := ⟨some 10, _, _, _, _, _⟩) ?_); (refine Se.toL rfl (Se.ld (o := ⟨some 10, _, _, _, _, _⟩) hs rfl rfl (Cell.blk 1 rfl R4.out) (by kernel_rfl) ?_))) | ((first | with_reducible refine Se.ab hs ?_ | with_reducible refine Se.abc hs ?_); clear hs; (first | (generalize w.heap.size = g1; intro w hs))))
  have RDR := Lib.hid (show Reads (.blk g2 41 Z :: .blk g1 57 RL :: L) (some ⟨g1, 0, none⟩) F from fun wx hw => RDF.out _ _ _ (hw (.blk g1 57 RL) (by simp)))
  go_upto_region 4 with (first | ((with_reducible refine Se.isL (o := ⟨some 16, _, _, _, _, _⟩) ?_); (refine Se.toL rfl (Se.ld (o := ⟨some 16, _, _, _, _, _⟩) hs rfl rfl (Cell.blk 1 rfl R4.out) (by kernel_rfl) ?_))) | ((with_reducible refine Se.isL (o := ⟨some 18, _, _, _, _, _⟩) ?_); (refine Se.toL rfl (Se.ldw (o := ⟨some 18, _, _, _, _, _⟩) hs rfl rfl (RDR.out) ((by rw [FL.out]; kernel_rfl)) (by kernel_rfl) ?_))) | (go_at_call 71; refine Calls.mono (CM.out [_, _] _ hs) ?_; clear hs; rintro e w ⟨rfl, hs⟩))
  go_wp2_with (first | ((with_reducible refine Se.isL (o := ⟨some 28, _, _, _, _, _⟩) ?_); (refine Se.toL rfl (Se.ld (o := ⟨some 28, _, _, _, _, _⟩) hs rfl rfl (Cell.blk 1 rfl R3.out) (by kernel_rfl) ?_))) | ((with_reducible refine Se.isL (o := ⟨some 33, _, _, _, _, _⟩) ?_); (refine Se.toL rfl (Se.ld (o := ⟨some 33, _, _, _, _, _⟩) hs rfl rfl (Cell.blk 1 rfl R4.out) (by kernel_rfl) ?_))) | ((with_reducible refine Se.isL (o := ⟨some 36, _, _, _, _, _⟩) ?_); (refine Se.toL rfl (Se.bd (o := ⟨some 36, _, _, _, _, _⟩) rfl rfl (BP.out _) ?_))) | ((with_reducible refine Se.isL (o := ⟨none, _, _, _, _, _⟩) ?_); (refine Se.toL rfl (Se.sow 0 hs rfl rfl rfl rfl (ZO.out) ((by rw [ZL.out]; kernel_rfl)) ((by rw [ZL.out])) ?_); clear hs; intro w hs; try simp only [List.cons_append, List.nil_append, List.set_cons_zero] at hs)))
  refine Se.ret hs [.agg Z.toArray, iv 0, iv _] rfl ⟨Se.resRow rfl (Reads.blk 0 rfl) (by kernel_rfl) (by rw [ZL.out] <;> kernel_rfl), rfl, rfl, trivial⟩ (by simp) rfl ?_
  exact ⟨none, 0, none, 0, Z, rfl, HZE, Lib.hid Reads.nil, Lib.hid Reads.nil, hs.drop.drop⟩
 rw [if_neg h2] at HT2
 simp only [Prod.mk.injEq] at HT2
 obtain ⟨hp1, hp2, hp3⟩ := HT2
 replace hp2 := hp2.symm
 subst hp1 hp2 hp3
 have a4 : decide (m < t) = false := by simpa using h2
 have a4' : decide ((m : Int) < (t : Int)) = false := by simpa using h2
 have HTM := Lib.hid (show t ≤ m by omega)
 have b1 : (t : Int) ≤ (c : Int) := by have := HTM.out; omega
 have b2 : t ≤ c := by have := HTM.out; omega
 clear h2
 go_enter Try.func62, Try.ntmps62
 go_upto_region 3 with (first | ((with_reducible refine Se.isL (o := ⟨some 2, _, _, _, _, _⟩) ?_); (refine Se.toL rfl (Se.al (o := ⟨some 2, _, _, _, _, _⟩) hs rfl (HZ.out) ?_); clear hs; rintro w g2 - hs)) | ((with_reducible refine Se.isL (o := ⟨some 10, _, _, _, _, _⟩) ?_); (refine Se.toL rfl (Se.ld (o := ⟨some 10, _, _, _, _, _⟩) hs rfl rfl (Cell.blk 1 rfl R4.out) (by kernel_rfl) ?_))) | ((first | with_reducible refine Se.ab hs ?_ | with_reducible refine Se.abc hs ?_); clear hs; (first | (generalize w.heap.size = g1; intro w hs))))
 have RDR := Lib.hid (show Reads (.blk g2 41 Z :: .blk g1 57 RL :: L) (some ⟨g1, 0, none⟩) F from fun wx hw => RDF.out _ _ _ (hw (.blk g1 57 RL) (by simp)))
 go_upto_region 4 with (first | ((with_reducible refine Se.isL (o := ⟨some 16, _, _, _, _, _⟩) ?_); (refine Se.toL rfl (Se.ld (o := ⟨some 16, _, _, _, _, _⟩) hs rfl rfl (Cell.blk 1 rfl R4.out) (by kernel_rfl) ?_))) | ((with_reducible refine Se.isL (o := ⟨some 18, _, _, _, _, _⟩) ?_); (refine Se.toL rfl (Se.ldw (o := ⟨some 18, _, _, _, _, _⟩) hs rfl rfl (RDR.out) ((by rw [FL.out]; kernel_rfl)) (by kernel_rfl) ?_))) | (go_at_call 71; refine Calls.mono (CM.out [_, _] _ hs) ?_; clear hs; rintro e w ⟨rfl, hs⟩))
 go_upto_region 10 with (first | ((with_reducible refine Se.isL (o := ⟨some 28, _, _, _, _, _⟩) ?_); (refine Se.toL rfl (Se.ld (o := ⟨some 28, _, _, _, _, _⟩) hs rfl rfl (Cell.blk 1 rfl R3.out) (by kernel_rfl) ?_))) | ((with_reducible refine Se.isL (o := ⟨some 33, _, _, _, _, _⟩) ?_); (refine Se.toL rfl (Se.ld (o := ⟨some 33, _, _, _, _, _⟩) hs rfl rfl (Cell.blk 1 rfl R4.out) (by kernel_rfl) ?_))))
 go_cut [7, 8] (fun s7 s8 wx => ∃ g7 EA ec DA dc PC, s7 = .pointer (some ⟨g7, 0, none⟩) ∧ s8 = iv D.2 ∧ Hid (PC = pc D.1.h EA D.1.en.length ec DA D.1.da.length dc) ∧ Hid (Reads L EA (D.1.en.map v8)) ∧ Hid (Reads L DA (D.1.da.map v8)) ∧ St w0 X ([.blk g7 41 PC, .blk g2 41 Z, .blk g1 57 RL] ++ L) wx)
 case first =>
  refine Or.region 13 (fun wx => Blk wx g1 RL 57) (fun | 6 => true | 10 => true | 11 => true | _ => false) (by kernel_rfl) (by decide +kernel) (hs.drew.hold (.blk g1 57 RL) (by simp)) ?_
  replace hs := hs.drew
  generalize w.drew = w at hs ⊢
  change Or.AW _ _ _ _ _ 13 [0, 1, 2, 3, 4, 5, 6, 7, 8, 9, 10, 11, 12] _ _
  refine Or.pure 0 (v := ?_) (by rfl) (by decide +kernel) (by rfl) (by rfl) (by rfl) (fun wx hS => ?_) ?_; rotate_left; (focus (go_simp; (first | done | with_reducible rfl)))
  (try simp only [Act.put, List.setIfInBounds_toArray, List.set_cons_zero, List.set_cons_succ])
  change Or.AW _ _ _ _ _ 12 [1, 2, 3, 4, 5, 6, 7, 8, 9, 10, 11, 12] _ _
  refine Or.pure 1 (v := .slice B m c) (by rfl) (by decide +kernel) (by rfl) (by rfl) (by rfl) (fun wx hS => Se.xl rfl rfl (by rw [hS.cell]; exact R4.out) (by decide +kernel)) ?_
  (try simp only [Act.put, List.setIfInBounds_toArray, List.set_cons_zero, List.set_cons_succ])
  change Or.AW _ _ _ _ _ 11 [2, 3, 4, 5, 6, 7, 8, 9, 10, 11, 12] _ _
  refine Or.pure 2 (v := ?_) (by rfl) (by decide +kernel) (by rfl) (by rfl) (by rfl) (fun wx hS => ?_) ?_; rotate_left; (focus (go_simp; (first | done | with_reducible rfl)))
  (try simp only [Act.put, List.setIfInBounds_toArray, List.set_cons_zero, List.set_cons_succ])
  change Or.AW _ _ _ _ _ 10 [3, 4, 5, 6, 7, 8, 9, 10, 11, 12] _ _
  refine Or.pure 3 (v := ?_) (by rfl) (by decide +kernel) (by rfl) (by rfl) (by rfl) (fun wx hS => ?_) ?_; rotate_left; (focus (go_simp; (first | done | with_reducible rfl)))
  (try simp only [Act.put, List.setIfInBounds_toArray, List.set_cons_zero, List.set_cons_succ])
  change Or.AW _ _ _ _ _ 9 [4, 5, 6, 7, 8, 9, 10, 11, 12] _ _
  refine Or.pure 4 (v := ?_) (by rfl) (by decide +kernel) (by rfl) (by rfl) (by rfl) (fun wx hS => ?_) ?_; rotate_left; (focus (go_simp; (first | done | with_reducible rfl)))
  (try simp only [Act.put, List.setIfInBounds_toArray, List.set_cons_zero, List.set_cons_succ])
  change Or.AW _ _ _ _ _ 8 [5, 6, 7, 8, 9, 10, 11, 12] _ _
  refine Or.pure 5 (v := .agg F.toArray) (by rfl) (by decide +kernel) (by rfl) (by rfl) (by rfl) (fun wx hS => Se.xla rfl rfl (RDF.out _ _ _ hS) (by rw [FL.out] <;> kernel_rfl) (by kernel_rfl)) ?_
  (try simp only [Act.put, List.setIfInBounds_toArray, List.set_cons_zero, List.set_cons_succ])
  change Or.AW _ _ _ _ _ 7 [6, 7, 8, 9, 10, 11, 12] _ _
  refine Or.two 6 10 (by decide +kernel) (by decide +kernel) (by rfl) (by rfl) (by rfl) (by rfl) ?_ ?_
  ·skip
   refine Se.gcall (f := 72) (args := #[.slice B t c, .agg F.toArray]) ?_ ?_
   ·go_simp
   refine Calls.mono (CD.out [_, _] _ HTM.out hs) ?_
   clear hs
   rintro e w ⟨EA, ec, DA, dc, PC, rfl, HPC, RE, RD, hs⟩
   simp only [List.cons_append, List.nil_append] at hs
   refine ⟨_, rfl, hs.hold (.blk g1 57 RL) (by simp), ?_⟩
   have PCL := Lib.hid (pcl PC HPC.out).1
   have PCO := Lib.hid (pcl PC HPC.out).2
   (try simp only [Act.put, List.setIfInBounds_toArray, List.set_cons_zero, List.set_cons_succ])
   change Or.AW _ _ _ _ _ 6 [7, 8, 9, 10, 11, 12] _ _
   refine Or.pure 7 (v := ?_) (by rfl) (by decide +kernel) (by rfl) (by rfl) (by rfl) (fun wx hS => ?_) ?_; rotate_left; (focus (go_simp; (first | done | with_reducible rfl)))
   (try simp only [Act.put, List.setIfInBounds_toArray, List.set_cons_zero, List.set_cons_succ])
   change Or.AW _ _ _ _ _ 5 [8, 9, 10, 11, 12] _ _
   refine Or.pure 8 (v := ?_) (by rfl) (by decide +kernel) (by rfl) (by rfl) (by rfl) (fun wx hS => ?_) ?_; rotate_left; (focus (go_simp; (first | done | with_reducible rfl)))
   (try simp only [Act.put, List.setIfInBounds_toArray, List.set_cons_zero, List.set_cons_succ])
   change Or.AW _ _ _ _ _ 4 [9, 10, 11, 12] _ _
   refine Or.pure 9 (v := ?_) (by rfl) (by decide +kernel) (by rfl) (by rfl) (by rfl) (fun wx hS => ?_) ?_; rotate_left; (focus (go_simp; (first | done | with_reducible rfl)))
   (try simp only [Act.put, List.setIfInBounds_toArray, List.set_cons_zero, List.set_cons_succ])
   change Or.AW _ _ _ _ _ 3 [10, 11, 12] _ _
   refine Or.one 10 (by decide +kernel) (by decide +kernel) (by rfl) (by rfl) ?_
   refine Se.al hs rfl HZ.out ?_
   clear hs
   rintro w g7 - hs
   refine ⟨hs.hold (.blk g1 57 RL) (by simp), ?_⟩
   (try simp only [Act.put, List.setIfInBounds_toArray, List.set_cons_zero, List.set_cons_succ])
   change Or.AW _ _ _ _ _ 2 [11, 12] _ _
   refine Or.one 11 (by decide +kernel) (by decide +kernel) (by rfl) (by rfl) ?_
   refine Se.sow 0 (vs := PC) hs rfl rfl rfl rfl PCO.out (by rw [PCL.out] <;> kernel_rfl) (by rw [PCL.out, ZL.out]) ?_
   clear hs
   intro w hs
   simp only [List.cons_append, List.nil_append, List.set_cons_zero, List.set_cons_succ] at hs
   refine ⟨hs.hold (.blk g1 57 RL) (by simp), ?_⟩
   (try simp only [Act.put])
   change Or.AW _ _ _ _ _ 1 [12] _ _
   refine Or.pure 12 (v := ?_) (by rfl) (by decide +kernel) (by rfl) (by rfl) (by rfl) (fun wx hS => ?_) ?_; rotate_left; (focus (go_simp; (first | done | with_reducible rfl)))
   (try simp only [Act.put, List.setIfInBounds_toArray, List.set_cons_zero, List.set_cons_succ])
   change Or.AW _ _ _ _ _ 0 [] _ _
   refine Or.done ?_
   simp only [List.drop_succ_cons, List.drop_zero]
   go_wp2_with fail
   go_meet
   exact ⟨g7, EA, ec, DA, dc, PC, rfl, rfl, HPC, RE, RD, hs⟩
  ·skip
   refine Se.al hs rfl HZ.out ?_
   clear hs
   rintro w g7 - hs
   refine ⟨hs.hold (.blk g1 57 RL) (by simp), ?_⟩
   (try simp only [Act.put, List.setIfInBounds_toArray, List.set_cons_zero, List.set_cons_succ])
   change Or.AW _ _ _ _ _ 6 [6, 7, 8, 9, 11, 12] _ _
   refine Or.one 6 (by decide +kernel) (by decide +kernel) (by rfl) (by rfl) ?_
   refine Se.gcall (f := 72) (args := #[.slice B t c, .agg F.toArray]) ?_ ?_
   ·go_simp
   refine Calls.mono (CD.out [_, _, _] _ HTM.out hs) ?_
   clear hs
   rintro e w ⟨EA, ec, DA, dc, PC, rfl, HPC, RE, RD, hs⟩
   simp only [List.cons_append, List.nil_append] at hs
   refine ⟨_, rfl, hs.hold (.blk g1 57 RL) (by simp), ?_⟩
   have PCL := Lib.hid (pcl PC HPC.out).1
   have PCO := Lib.hid (pcl PC HPC.out).2
   (try simp only [Act.put, List.setIfInBounds_toArray, List.set_cons_zero, List.set_cons_succ])
   change Or.AW _ _ _ _ _ 5 [7, 8, 9, 11, 12] _ _
   refine Or.pure 7 (v := ?_) (by rfl) (by decide +kernel) (by rfl) (by rfl) (by rfl) (fun wx hS => ?_) ?_; rotate_left; (focus (go_simp; (first | done | with_reducible rfl)))
   (try simp only [Act.put, List.setIfInBounds_toArray, List.set_cons_zero, List.set_cons_succ])
   change Or.AW _ _ _ _ _ 4 [8, 9, 11, 12] _ _
   refine Or.pure 8 (v := ?_) (by rfl) (by decide +kernel) (by rfl) (by rfl) (by rfl) (fun wx hS => ?_) ?_; rotate_left; (focus (go_simp; (first | done | with_reducible rfl)))
   (try simp only [Act.put, List.setIfInBounds_toArray, List.set_cons_zero, List.set_cons_succ])
   change Or.AW _ _ _ _ _ 3 [9, 11, 12] _ _
   refine Or.pure 9 (v := ?_) (by rfl) (by decide +kernel) (by rfl) (by rfl) (by rfl) (fun wx hS => ?_) ?_; rotate_left; (focus (go_simp; (first | done | with_reducible rfl)))
   (try simp only [Act.put, List.setIfInBounds_toArray, List.set_cons_zero, List.set_cons_succ])
   change Or.AW _ _ _ _ _ 2 [11, 12] _ _
   refine Or.one 11 (by decide +kernel) (by decide +kernel) (by rfl) (by rfl) ?_
   refine Se.sow 0 (vs := PC) hs rfl rfl rfl rfl PCO.out (by rw [PCL.out] <;> kernel_rfl) (by rw [PCL.out, ZL.out]) ?_
   clear hs
   intro w hs
   simp only [List.cons_append, List.nil_append, List.set_cons_zero, List.set_cons_succ] at hs
   refine ⟨hs.hold (.blk g1 57 RL) (by simp), ?_⟩
   (try simp only [Act.put])
   change Or.AW _ _ _ _ _ 1 [12] _ _
   refine Or.pure 12 (v := ?_) (by rfl) (by decide +kernel) (by rfl) (by rfl) (by rfl) (fun wx hS => ?_) ?_; rotate_left; (focus (go_simp; (first | done | with_reducible rfl)))
   (try simp only [Act.put, List.setIfInBounds_toArray, List.set_cons_zero, List.set_cons_succ])
   change Or.AW _ _ _ _ _ 0 [] _ _
   refine Or.done ?_
   simp only [List.drop_succ_cons, List.drop_zero]
   go_wp2_with fail
   go_meet
   exact ⟨g7, EA, ec, DA, dc, PC, rfl, rfl, HPC, RE, RD, hs⟩
 case rest =>
 clear hs
 obtain ⟨g7, EA, ec, DA, dc, PC, rfl, rfl, HPC, RE, RD, hs⟩ := hcut
 rename World => w
 have PCL := Lib.hid (pcl PC HPC.out).1
 have PCO := Lib.hid (pcl PC HPC.out).2
 go_wp2_with (first | ((with_reducible refine Se.isL (o := ⟨some 47, _, _, _, _, _⟩) ?_); (refine Se.toL rfl (Se.ldw (o := ⟨some 47, _, _, _, _, _⟩) hs rfl rfl ((Reads.blk 0 rfl)) ((by rw [PCL.out]; kernel_rfl)) (by kernel_rfl) ?_))) | ((with_reducible refine Se.isL (o := ⟨none, _, _, _, _, _⟩) ?_); (refine Se.toL rfl (Se.sow 1 hs rfl rfl rfl rfl (PCO.out) ((by rw [PCL.out]; kernel_rfl)) ((by rw [PCL.out, ZL.out])) ?_); clear hs; intro w hs; try simp only [List.cons_append, List.nil_append, List.set_cons_zero, List.set_cons_succ] at hs)))
 refine Se.ret hs [.agg PC.toArray, iv t, iv _] rfl ⟨Se.resRow rfl (Reads.blk 1 rfl) (by kernel_rfl) (by rw [PCL.out] <;> kernel_rfl), rfl, rfl, trivial⟩ (by simp) rfl ?_
 exact ⟨EA, ec, DA, dc, PC, rfl, HPC, RE, RD, hs.drop.drop.drop⟩
end Sr
end Go.Proofs.Ytdngfcmakjlamaa


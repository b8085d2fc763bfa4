/- Layer 28: known, Damage, Config, Zone. No condition but Go's own limits. -/
import Derived.Test.YthpgkkfahiglnaaZoneNs
set_option maxRecDepth 100000
set_option maxHeartbeats 4000000
set_option linter.unusedSimpArgs false
set_option linter.unusedVariables false
namespace Go.Proofs.Ythpgkkfahiglnaa
open Go Go.RowKit
namespace Zo
open Se (St At Reads Cell)
open Li (Rd Blk Fr)
variable {w0 w : World} {X : List Nat} {L : List At}
attribute [local irreducible] Calls
attribute [local go_sem] eql_nil
theorem xbd {P : Program} {o : Oper} {a : Act} {w : World} {ty : TypeId} {parts : List (Nat × Operand)} (ho : o.op = .build ty parts.toArray) {vs : List (Nat × Value)} (hv : parts.map (fun p => (p.1, a.eval p.2)) = vs) {v : Value} (hb : (Instr.build ty vs.toArray).run P w = .ok v w) : (execOp a.eval o).run P w = .ok (.value v) w := by
 have e : (parts.toArray.map fun (i, x) => (i, a.eval x)) = vs.toArray := by rw [← hv]; simp
 unfold execOp
 simp only [ho, Sem.run_bind]
 rw [e, hb]
 simp
theorem known_st {g cc : Nat} {z : Zs} {a : Addr} (hs : St w0 X (pZ g z (some a) cc :: L) w) (ho : OkZ z) (i : Int) {e : Nat} (he : e = if i < 0 ∨ z.l.length ≤ i then 3 else 0) :
  Calls Try.prog 43 #[.pointer (some ⟨g, 0, none⟩), .int .i64 i] w fun e' w' => e' = .returned (iv e) ∧ St w0 X (pZ g z (some a) cc :: L) w' := by
 have CN : Hid (∀ (w : World), St w0 X (pZ g z (some a) cc :: L) w → Calls Try.prog 42 #[.pointer (some ⟨g, 0, none⟩)] w fun e w' => e = .returned (.bool false) ∧ St w0 X (pZ g z (some a) cc :: L) w') := Lib.hid (fun w hs => none_st hs (by simp))
 obtain ⟨RL, hRL⟩ : ∃ RL, RL = zcl z (some a) cc := ⟨_, rfl⟩
 obtain ⟨k, hk⟩ : ∃ n, n = z.l.length := ⟨_, rfl⟩
 have hk1 : k ≤ 4096 := by rw [hk, ho.1]; exact ho.2.2.1
 have hk0 : 1 ≤ k := by rw [hk, ho.1]; exact ho.2.1
 have R5 := Lib.hid (show RL[5]? = some (.slice (some a) k cc) by rw [hRL, hk]; rfl)
 simp only [pZ] at hs CN ⊢
 rw [← hRL] at hs CN ⊢
 rw [← hk] at he
 clear hRL hk ho
 by_cases h : i < 0 ∨ (k : Int) ≤ i
 ·rw [if_pos h] at he
  subst he
  have HW := Lib.hid (show [i].all (fun x => decide (0 ≤ x ∧ x ≤ (k : Int) - 1)) = false by simp; omega)
  clear h
  go_enter Try.func43, Try.ntmps43
  go_wp2_with (first | ((with_reducible refine Se.isL (o := ⟨some 12, _, _, _, _, _⟩) ?_); (refine Se.toL rfl (Se.ld (o := ⟨some 12, _, _, _, _, _⟩) hs rfl rfl (Cell.blk 0 rfl R5.out) (by kernel_rfl) ?_))) | ((with_reducible refine Se.isL (o := ⟨some 16, _, _, _, _, _⟩) ?_); (refine Se.toL rfl (Se.bsv (o := ⟨some 16, _, _, _, _, _⟩) hs rfl Try.underlying106 inti rfl ([.int .i64 i]) (by rfl) (by rfl) (by decide) (by decide) (by simp [Value.oneCell']) ?_); clear hs; rintro w g16 - hs)) | (go_at_call 42; refine Calls.mono (CN.out _ hs) ?_; clear hs; rintro e w ⟨rfl, hs⟩) | (go_at_call 32; refine Calls.mono (within_st (n := 1) hs 0 ((k : Int) - 1) (xs := [i]) rfl (Reads.blk 0 rfl) (by decide) HW.out) ?_; clear hs; rintro e w ⟨rfl, hs⟩))
  go_ret
  exact ⟨rfl, hs.drop⟩
 ·rw [if_neg h] at he
  subst he
  have HW := Lib.hid (show [i].all (fun x => decide (0 ≤ x ∧ x ≤ (k : Int) - 1)) = true by simp; omega)
  clear h
  go_enter Try.func43, Try.ntmps43
  go_wp2_with (first | ((with_reducible refine Se.isL (o := ⟨some 12, _, _, _, _, _⟩) ?_); (refine Se.toL rfl (Se.ld (o := ⟨some 12, _, _, _, _, _⟩) hs rfl rfl (Cell.blk 0 rfl R5.out) (by kernel_rfl) ?_))) | ((with_reducible refine Se.isL (o := ⟨some 16, _, _, _, _, _⟩) ?_); (refine Se.toL rfl (Se.bsv (o := ⟨some 16, _, _, _, _, _⟩) hs rfl Try.underlying106 inti rfl ([.int .i64 i]) (by rfl) (by rfl) (by decide) (by decide) (by simp [Value.oneCell']) ?_); clear hs; rintro w g16 - hs)) | (go_at_call 42; refine Calls.mono (CN.out _ hs) ?_; clear hs; rintro e w ⟨rfl, hs⟩) | (go_at_call 32; refine Calls.mono (within_st (n := 1) hs 0 ((k : Int) - 1) (xs := [i]) rfl (Reads.blk 0 rfl) (by decide) HW.out) ?_; clear hs; rintro e w ⟨rfl, hs⟩))
  go_ret
  exact ⟨rfl, hs.drop⟩
theorem zCf : (Try.prog.info? 24).bind (fun i => i.zero.map (·.cells.toList)) = some (cl ⟨0, 0, 0, 0, 0⟩) := by kernel_rfl
theorem zZo : (Try.prog.info? 37).bind (fun i => i.zero.map (·.cells.toList)) = some [iv 0, iv 0, iv 0, iv 0] := by kernel_rfl
theorem cl_one (c : Cf) : ∀ v ∈ cl c, v.oneCell' = true := by simp [cl, Value.oneCell']
theorem config_st {g cc : Nat} {z : Zs} {a : Addr} (hs : St w0 X (pZ g z (some a) cc :: L) w) :
  Calls Try.prog 27 #[.pointer (some ⟨g, 0, none⟩)] w fun e' w' => e' = .returned (.agg (cl z.c).toArray) ∧ St w0 X (pZ g z (some a) cc :: L) w' := by
 have CN : Hid (∀ (M : List At) (w : World), St w0 X (M ++ pZ g z (some a) cc :: L) w → Calls Try.prog 42 #[.pointer (some ⟨g, 0, none⟩)] w fun e w' => e = .returned (.bool false) ∧ St w0 X (M ++ pZ g z (some a) cc :: L) w') := Lib.hid (fun M w hs => (none_st (hs.perm List.perm_middle) (by simp)).mono (by
  rintro e w ⟨h1, h2⟩
  exact ⟨h1, h2.perm List.perm_middle.symm⟩))
 obtain ⟨RL, hRL⟩ : ∃ RL, RL = zcl z (some a) cc := ⟨_, rfl⟩
 obtain ⟨C, hC⟩ : ∃ C, C = cl z.c := ⟨_, rfl⟩
 have HT : Hid (RL.take 5 = C) := Lib.hid (by rw [hRL, hC]; rfl)
 have CL := Lib.hid (show C.length = 5 by rw [hC]; rfl)
 have CO := Lib.hid (show ∀ v ∈ C, v.oneCell' = true by rw [hC]; exact cl_one _)
 have HR : Hid (∀ M : List At, Reads (M ++ .blk g 71 RL :: L) (some ⟨g, 0, none⟩) C) := Lib.hid (fun M => by
  have h : Reads (.blk g 71 RL :: L) (some ⟨g, 0, none⟩) RL := Reads.blk 0 rfl
  rw [← HT.out]
  exact (h.take 5).app M)
 have ZL := Lib.hid (show (cl ⟨0, 0, 0, 0, 0⟩).length = 5 from rfl)
 simp only [pZ] at hs CN ⊢
 rw [← hRL] at hs CN ⊢
 rw [← hC]
 clear hRL hC HT
 go_enter Try.func27, Try.ntmps27
 go_wp2_with (first | ((with_reducible refine Se.isL (o := ⟨some 2, _, _, _, _, _⟩) ?_); (refine Se.toL rfl (Se.al (o := ⟨some 2, _, _, _, _, _⟩) hs rfl (zCf) ?_); clear hs; rintro w g2 - hs)) | ((with_reducible refine Se.isL (o := ⟨some 9, _, _, _, _, _⟩) ?_); (refine Se.toL rfl (Se.ldw (o := ⟨some 9, _, _, _, _, _⟩) hs rfl rfl ((HR.out [_])) ((by rw [CL.out]; kernel_rfl)) (by kernel_rfl) ?_))) | ((with_reducible refine Se.isL (o := ⟨none, _, _, _, _, _⟩) ?_); (refine Se.toL rfl (Se.sow 0 hs rfl rfl rfl rfl (CO.out) ((by rw [CL.out]; kernel_rfl)) ((by rw [CL.out, ZL.out])) ?_); clear hs; intro w hs; try simp only [List.cons_append, List.nil_append, List.set_cons_zero] at hs)) | (go_at_call 42; refine Calls.mono (CN.out [_] _ hs) ?_; clear hs; rintro e w ⟨rfl, hs⟩))
 refine bodyPost_ret (v := .agg C.toArray) ?_ rfl ?_
 ·exact run_results_row hs rfl rfl (Reads.blk 0 rfl) (by kernel_rfl) (by rw [CL.out] <;> kernel_rfl)
 ·exact ⟨rfl, hs.drop⟩
def zcV (z : Zs) (i : Nat) : List Value := [iv (z.l.getD i dz).st, iv (i * z.c.sz), iv z.c.cap, iv (i * z.c.sz + (z.l.getD i dz).p)]
theorem zone_st {g cc : Nat} {z : Zs} {a : Addr} {r : Option Nat} (hs : St w0 X (pZ g z (some a) cc :: pL r (some a) cc z :: L) w) (ho : OkZ z) {i : Nat} (hi : i < z.l.length) :
  Calls Try.prog 15 #[.pointer (some ⟨g, 0, none⟩), .int .i64 (i : Int)] w fun e' w' => e' = .returned (.tuple #[.agg (zcV z i).toArray, .int .i64 0]) ∧ St w0 X (pZ g z (some a) cc :: pL r (some a) cc z :: L) w' := by
 obtain ⟨ga, oa, ha, hr⟩ := hs.own_at 1 rfl (by omega)
 obtain rfl : a = ⟨ga, oa, none⟩ := by simpa using ha
 subst hr
 clear ha
 have CK : Hid (∀ (g4 : Nat) (w : World), St w0 X (.blk g4 37 [iv 0, iv 0, iv 0, iv 0] :: pZ g z (some ⟨ga, oa, none⟩) cc :: pL (some ga) (some ⟨ga, oa, none⟩) cc z :: L) w → Calls Try.prog 43 #[.pointer (some ⟨g, 0, none⟩), .int .i64 (i : Int)] w fun e w' => e = .returned (.int .i64 0) ∧ St w0 X (.blk g4 37 [iv 0, iv 0, iv 0, iv 0] :: pZ g z (some ⟨ga, oa, none⟩) cc :: pL (some ga) (some ⟨ga, oa, none⟩) cc z :: L) w') := Lib.hid (fun g4 w hs => (known_st (e := 0) (hs.perm (List.Perm.swap _ _ _)) ho i (by rw [if_neg (by omega)])).mono (by
  rintro e w ⟨h1, h2⟩
  exact ⟨h1, h2.perm (List.Perm.swap _ _ _)⟩))
 obtain ⟨RL, hRL⟩ : ∃ RL, RL = zcl z (some ⟨ga, oa, none⟩) cc := ⟨_, rfl⟩
 obtain ⟨k, hk⟩ : ∃ n, n = z.l.length := ⟨_, rfl⟩
 have hk1 : k ≤ 4096 := by rw [hk, ho.1]; exact ho.2.2.1
 obtain ⟨sz, hsz⟩ : ∃ n, n = z.c.sz := ⟨_, rfl⟩
 have hsz2 : sz ≤ 65536 := by rw [hsz]; exact ho.2.2.2.2.1
 obtain ⟨cap, hcap⟩ : ∃ n, n = z.c.cap := ⟨_, rfl⟩
 have hcap1 : cap ≤ 65536 := by rw [hcap]; have := ho.2.2.2.2.2.2.1; have := ho.2.2.2.2.1; omega
 obtain ⟨l, hl⟩ : ∃ l, l = z.l := ⟨_, rfl⟩
 obtain ⟨x, hx⟩ : ∃ x, x = l.getD i dz := ⟨_, rfl⟩
 obtain ⟨p, hp⟩ : ∃ p, p = x.p := ⟨_, rfl⟩
 obtain ⟨st, hst⟩ : ∃ p, p = x.st := ⟨_, rfl⟩
 have hpc : p ≤ cap := by rw [hp, hcap, hx, hl]; exact (ho.2.2.2.2.2.2.2.2.2 _ (getD_mem hi)).2.2.1
 have R5 := Lib.hid (show RL[5]? = some (.slice (some ⟨ga, oa, none⟩) k cc) by rw [hRL, hk]; rfl)
 have R1 := Lib.hid (show RL[1]? = some (iv sz) by rw [hRL, hsz]; rfl)
 have R2 := Lib.hid (show RL[2]? = some (iv cap) by rw [hRL, hcap]; rfl)
 have hil : i < l.length := by rw [hl]; exact hi
 have hxg : x = l[i] := by rw [hx]; exact getD_get hil
 have e1 : pZ g z (some ⟨ga, oa, none⟩) cc = .blk g 71 RL := by rw [hRL]
 have e2 : pL (some ga) (some ⟨ga, oa, none⟩) cc z = .own 3 (some ga) (some ⟨ga, oa, none⟩) k cc (ocs l) := by unfold pL; rw [← hk, ← hl]
 obtain ⟨O, hO⟩ : ∃ O, O = oc x := ⟨_, rfl⟩
 have HR : Hid (∀ (M : List At), Reads (M ++ .blk g 71 RL :: .own 3 (some ga) (some ⟨ga, oa, none⟩) k cc (ocs l) :: L) (some ⟨ga, oa + i * 3, none⟩) O) := Lib.hid (fun M => by
  have h := row_at (L := .blk g 71 RL :: .own 3 (some ga) (some ⟨ga, oa, none⟩) k cc (ocs l) :: L) (Reads.own 1 rfl) hil
  rw [hO, hxg]; exact h.app M)
 have OL := Lib.hid (show O.length = 3 by rw [hO]; rfl)
 have OO := Lib.hid (show ∀ v ∈ O, v.oneCell' = true by rw [hO]; exact oc_one x)
 have O0 := Lib.hid (show O[0]? = some (iv st) by rw [hO, hst]; rfl)
 have O1 := Lib.hid (show O[1]? = some (iv p) by rw [hO, hp]; rfl)
 obtain ⟨sta, hsta⟩ : ∃ s, s = i * sz := ⟨_, rfl⟩
 have hsta1 : sta ≤ 268435456 := by rw [hsta]; exact (Nat.mul_le_mul (show i ≤ 4096 by omega) hsz2 : i * sz ≤ 4096 * 65536)
 obtain ⟨pt, hpt⟩ : ∃ s, s = sta + p := ⟨_, rfl⟩
 have w1 : IntKind.i64.wrap ((i : Int) * (sz : Int)) = (sta : Int) := by rw [← Int.natCast_mul, ← hsta]; exact IntWalk.i64_in _ (by omega)
 have w2 : IntKind.i64.wrap ((sta : Int) + (p : Int)) = (pt : Int) := by rw [← Int.natCast_add, ← hpt]; exact IntWalk.i64_in _ (by omega)
 have HZ : Hid (zcV z i = [iv st, iv sta, iv cap, iv pt]) := Lib.hid (by unfold zcV; rw [hst, hx, hl, hpt, hsta, hsz, hcap, hp, hx, hl])
 obtain ⟨Z, hZ⟩ : ∃ Z, Z = zcV z i := ⟨_, rfl⟩
 have ZE := Lib.hid (show Z = [iv st, iv sta, iv cap, iv pt] by rw [hZ, HZ.out])
 have ZL := Lib.hid (show Z.length = 4 by rw [ZE.out]; rfl)
 have ZO := Lib.hid (show ∀ v ∈ Z, v.oneCell' = true by rw [ZE.out]; simp [Value.oneCell'])
 have BP : Hid (∀ w : World, (Instr.build 37 #[(0, iv st), (1, iv sta), (2, iv cap), (3, iv pt)]).run Try.prog w = .ok (.agg Z.toArray) w) := Lib.hid (fun w => by rw [ZE.out]; kernel_rfl)
 have hik : (i : Int) < (k : Int) := by omega
 rw [e1, e2] at hs CK ⊢
 rw [← hZ]
 clear hRL hk hsz hcap hl hx hp hst hil hxg e1 e2 hO hsta hpt HZ hZ ho hi
 go_enter Try.func15, Try.ntmps15
 go_upto_region 4 with (first | ((with_reducible refine Se.isL (o := ⟨some 4, _, _, _, _, _⟩) ?_); (refine Se.toL rfl (Se.al (o := ⟨some 4, _, _, _, _, _⟩) hs rfl (zZo) ?_); clear hs; rintro w g4 - hs)) | (go_at_call 43; refine Calls.mono (CK.out _ _ hs) ?_; clear hs; rintro e w ⟨rfl, hs⟩))
 refine Ch.region' 17 (fun wx => Blk wx g RL 71 ∧ Rd wx (some ⟨ga, oa + i * 3, none⟩) O) (fun | 14 => true | 15 => true | _ => false) (by kernel_rfl) (by decide +kernel) (⟨hs.drew.hold (.blk g 71 RL) (by simp), HR.out [_] _ hs.drew.hold⟩) ?_
 replace hs := hs.drew
 generalize w.drew = w at hs ⊢
 change Ch.CW _ _ _ _ _ [0, 1, 2, 3, 4, 5, 6, 7, 8, 9, 10, 11, 12, 13, 14, 15, 16] _ _
 iterate 14 ((first | (refine Ch.pure (v := ?_) (by rfl) (by rfl) (by rfl) (fun wx hS => ?_) ?_; rotate_left; (focus (go_simp; (first | done | with_reducible rfl)))) | refine Ch.pure (v := _) (by rfl) (by rfl) (by rfl) (fun wx hS => Se.xl rfl rfl (by rw [hS.1.cell]; exact R5.out) (by decide +kernel)) ?_ | refine Ch.pure (v := _) (by rfl) (by rfl) (by rfl) (fun wx hS => Se.xl rfl rfl (by rw [hS.1.cell]; exact R1.out) (by decide +kernel)) ?_ | refine Ch.pure (v := _) (by rfl) (by rfl) (by rfl) (fun wx hS => Se.xla rfl rfl hS.2 (by rw [OL.out] <;> kernel_rfl) (by kernel_rfl)) ?_); (try simp only [Act.put, List.setIfInBounds_toArray, List.set_cons_zero, List.set_cons_succ]))
 refine Ch.noise (by rfl) (by rfl) (by rfl) (Se.al hs rfl (zOne) ?_)
 clear hs
 rintro w g7 - hs
 refine ⟨⟨hs.hold (.blk g 71 RL) (by simp), HR.out [_, _] _ hs.hold⟩, ?_⟩
 (try simp only [Act.put, List.setIfInBounds_toArray, List.set_cons_zero, List.set_cons_succ])
 refine Ch.noise (by rfl) (by rfl) (by rfl) (Se.sow 0 hs rfl rfl rfl rfl OO.out (by rw [OL.out]; kernel_rfl) (by rw [OL.out]; rfl) ?_)
 clear hs
 intro w hs
 simp only [List.cons_append, List.nil_append, List.set_cons_zero, List.set_cons_succ] at hs
 refine ⟨⟨hs.hold (.blk g 71 RL) (by simp), HR.out [_, _] _ hs.hold⟩, ?_⟩
 (try simp only [Act.put, List.setIfInBounds_toArray, List.set_cons_zero, List.set_cons_succ])
 iterate 1 ((first | (refine Ch.pure (v := ?_) (by rfl) (by rfl) (by rfl) (fun wx hS => ?_) ?_; rotate_left; (focus (go_simp; (first | done | with_reducible rfl))))); (try simp only [Act.put, List.setIfInBounds_toArray, List.set_cons_zero, List.set_cons_succ]))
 refine Ch.done ?_
 try simp only [List.drop_succ_cons, List.drop_zero]
 go_upto_region 5 with (fail)
 refine Ch.region' 15 (fun wx => Blk wx g RL 71 ∧ Blk wx g7 O 80) (fun | 13 => true | _ => false) (by kernel_rfl) (by decide +kernel) (⟨hs.drew.hold (.blk g 71 RL) (by simp), hs.drew.hold (.blk g7 80 O) (by simp)⟩) ?_
 replace hs := hs.drew
 generalize w.drew = w at hs ⊢
 change Ch.CW _ _ _ _ _ [0, 1, 2, 3, 4, 5, 6, 7, 8, 9, 10, 11, 12, 13, 14] _ _
 iterate 12 ((first | (refine Ch.pure (v := ?_) (by rfl) (by rfl) (by rfl) (fun wx hS => ?_) ?_; rotate_left; (focus (go_simp; (first | done | with_reducible rfl)))) | refine Ch.pure (v := _) (by rfl) (by rfl) (by rfl) (fun wx hS => Se.xl rfl rfl (by rw [hS.1.cell]; exact R2.out) (by decide +kernel)) ?_ | refine Ch.pure (v := _) (by rfl) (by rfl) (by rfl) (fun wx hS => Se.xl rfl rfl (by rw [hS.2.cell]; exact O0.out) (by decide +kernel)) ?_ | refine Ch.pure (v := _) (by rfl) (by rfl) (by rfl) (fun wx hS => Se.xl rfl rfl (by rw [hS.2.cell]; exact O1.out) (by decide +kernel)) ?_); (try simp only [Act.put, List.setIfInBounds_toArray, List.set_cons_zero, List.set_cons_succ]))
 refine Ch.pure (v := .agg Z.toArray) (by rfl) (by rfl) (by rfl) (fun wx hS => xbd rfl (vs := [(0, iv st), (1, iv sta), (2, iv cap), (3, iv pt)]) rfl (BP.out _)) ?_
 (try simp only [Act.put, List.setIfInBounds_toArray, List.set_cons_zero, List.set_cons_succ])
 refine Ch.noise (by rfl) (by rfl) (by rfl) (Se.sow 1 hs rfl rfl rfl rfl ZO.out (by rw [ZL.out]; kernel_rfl) (by rw [ZL.out]; rfl) ?_)
 clear hs
 intro w hs
 simp only [List.cons_append, List.nil_append, List.set_cons_zero, List.set_cons_succ] at hs
 refine ⟨⟨hs.hold (.blk g 71 RL) (by simp), hs.hold (.blk g7 80 O) (by simp)⟩, ?_⟩
 (try simp only [Act.put, List.setIfInBounds_toArray, List.set_cons_zero, List.set_cons_succ])
 iterate 1 ((first | (refine Ch.pure (v := ?_) (by rfl) (by rfl) (by rfl) (fun wx hS => ?_) ?_; rotate_left; (focus (go_simp; (first | done | with_reducible rfl))))); (try simp only [Act.put, List.setIfInBounds_toArray, List.set_cons_zero, List.set_cons_succ]))
 refine Ch.done ?_
 try simp only [List.drop_succ_cons, List.drop_zero]
 go_wp2_with fail
 refine Se.ret hs [.agg Z.toArray, .int .i64 0] rfl ⟨Se.resRow rfl (Reads.blk 1 rfl) (by kernel_rfl) (by rw [ZL.out] <;> kernel_rfl), rfl, trivial⟩ (by simp) rfl ?_
 exact ⟨rfl, hs.drop.drop⟩
end Zo
end Go.Proofs.Ythpgkkfahiglnaa


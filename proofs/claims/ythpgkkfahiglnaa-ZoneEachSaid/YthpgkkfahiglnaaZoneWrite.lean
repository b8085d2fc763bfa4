/- Layer 28: what Write and Append do on the copy. No condition but Go's own limits. Printed by wip/gen_zonewrite.py. -/
import Derived.Test.YthpgkkfahiglnaaZonePut
set_option maxRecDepth 100000
set_option maxHeartbeats 4000000
set_option linter.unusedSimpArgs false
set_option linter.unusedVariables false
namespace Go.Proofs.Ythpgkkfahiglnaa
open Go Go.RowKit
namespace Zo
open Se (St At Reads Cell)
open Li (Rd Blk Fr)
variable {w0 w : World} {X : List Nat} {L : List At}
attribute [local irreducible] Calls
attribute [local go_sem] eql_nil
def AR (w0 : World) (X : List Nat) (L : List At) (g cc : Nat) (a : Addr) (r : Option Nat) (gat : Nat) (q : Zs × Nat × Nat) (e' : Ending) (w' : World) : Prop :=
 (q.2.2 = 0 ∧ e' = .returned (.tuple #[]) ∧ St w0 X (pZ g q.1 (some a) cc :: pL r (some a) cc q.1 :: .blk gat 3 [iv q.2.1] :: L) w') ∨ (q.2.2 ≠ 0 ∧ e' = .panicked (chS q.2.2) ∧ ∃ z', St w0 X (pZ g z' (some a) cc :: pL r (some a) cc z' :: .blk gat 3 [iv 0] :: L) w')
theorem capp {L : List At} (M : List At) {g i : Nat} {v : Value} (h : Cell L g i v) : Cell (M ++ L) g i v := fun w hw => h w fun a ha => hw a (List.mem_append.2 (.inr ha))
theorem insd_i {z : Zs} (ho : OkZ z) {lb m : Nat} (h : insd z (lb : Int) (m : Int) = true) (hm : 1 ≤ m) : lb / z.c.sz < z.l.length ∧ lb < 268435456 ∧ lb % z.c.sz < z.c.sz := by
 unfold insd at h
 simp only [decide_eq_true_eq] at h
 have h1 : z.c.n * z.c.sz ≤ 4096 * 65536 := Nat.mul_le_mul ho.2.2.1 ho.2.2.2.2.1
 have h2 : lb < z.c.n * z.c.sz := by omega
 refine ⟨?_, by omega, Nat.mod_lt _ ho.2.2.2.1⟩
 rw [ho.1]
 exact (Nat.div_lt_iff_lt_mul ho.2.2.2.1).2 h2
theorem insd_pos {z : Zs} {lba n : Int} (h : insd z lba n = true) : 0 ≤ lba := by
 unfold insd at h
 simp only [decide_eq_true_eq] at h
 exact h.1
theorem write1_st {g cc gn gl : Nat} {z : Zs} {a : Addr} {r : Option Nat} (hs : St w0 X (pZ g z (some a) cc :: pL r (some a) cc z :: L) w) (ho : OkZ z) (hw : z.w < 1099511627776) {lba n : Int} (hN : Cell L gn 0 (.int .i64 n)) (hB : Cell L gl 0 (.int .i64 lba)) :
  Calls Try.prog 35 #[.pointer (some ⟨g, 0, none⟩), .pointer (some ⟨gn, 0, none⟩), .pointer (some ⟨gl, 0, none⟩)] w fun e' w' => True ∧ ER w0 X L g cc a r (writeE z lba n) e' w' := by
 have hk0 : 0 < z.l.length := by rw [ho.1]; exact ho.2.1
 obtain ⟨ga, oa, ha, hr⟩ := hs.own_at 1 rfl (by omega)
 obtain rfl : a = ⟨ga, oa, none⟩ := by simpa using ha
 subst hr
 clear ha
 obtain ⟨RL, hRL⟩ : ∃ RL, RL = zcl z (some ⟨ga, oa, none⟩) cc := ⟨_, rfl⟩
 obtain ⟨k, hk⟩ : ∃ n, n = z.l.length := ⟨_, rfl⟩
 have hk1 : k ≤ 4096 := by rw [hk, ho.1]; exact ho.2.2.1
 obtain ⟨sz, hsz⟩ : ∃ n, n = z.c.sz := ⟨_, rfl⟩
 have hsz1 : 1 ≤ sz := by rw [hsz]; exact ho.2.2.2.1
 have hsz2 : sz ≤ 65536 := by rw [hsz]; exact ho.2.2.2.2.1
 obtain ⟨l, hl⟩ : ∃ l, l = z.l := ⟨_, rfl⟩
 have R5 := Lib.hid (show RL[5]? = some (.slice (some ⟨ga, oa, none⟩) k cc) by rw [hRL, hk]; rfl)
 have R1 := Lib.hid (show RL[1]? = some (iv sz) by rw [hRL, hsz]; rfl)
 have e1 : pZ g z (some ⟨ga, oa, none⟩) cc = .blk g 71 RL := by rw [hRL]
 have e2 : pL (some ga) (some ⟨ga, oa, none⟩) cc z = .own 3 (some ga) (some ⟨ga, oa, none⟩) k cc (ocs l) := by unfold pL; rw [← hk, ← hl]
 have E12 := Lib.hid (And.intro e1 e2)
 have HN : Hid (Cell (.blk g 71 RL :: .own 3 (some ga) (some ⟨ga, oa, none⟩) k cc (ocs l) :: L) gn 0 (.int .i64 n)) := Lib.hid (capp [_, _] hN)
 have HB : Hid (Cell (.blk g 71 RL :: .own 3 (some ga) (some ⟨ga, oa, none⟩) k cc (ocs l) :: L) gl 0 (.int .i64 lba)) := Lib.hid (capp [_, _] hB)
 have BAD : Hid (∀ (c : Nat), c ≠ 0 → writeE z lba n = (z, c) → ∀ w, St w0 X (.blk g 71 RL :: .own 3 (some ga) (some ⟨ga, oa, none⟩) k cc (ocs l) :: L) w → ER w0 X L g cc ⟨ga, oa, none⟩ (some ga) (writeE z lba n) (.panicked (chS c)) w) := Lib.hid (fun c hc he w hs => by
  rw [← e1, ← e2] at hs
  exact .inr (by rw [he]; exact ⟨hc, rfl, z, hs⟩))
 rw [e1, e2] at hs
 clear hN hB hk0
 by_cases hn : n < 1
 ·have f1 : decide ((1 : Int) ≤ n) = false := by simp; omega
  have HE := Lib.hid (BAD.out 2 (by decide) (by unfold writeE; rw [if_pos hn]))
  clear e1 e2 E12 hRL hk hsz hl ho hw BAD hn
  go_enter Try.func35, Try.ntmps35
  go_wp2_with (first | ((with_reducible refine Se.isL (o := ⟨some 6, _, _, _, _, _⟩) ?_); (refine Se.toL rfl (Se.ld (o := ⟨some 6, _, _, _, _, _⟩) hs rfl rfl (HN.out) (by kernel_rfl) ?_))) | (go_at_call 36; refine Calls.mono (must_f hs 2 (by decide)) ?_; clear hs; rintro e w ⟨rfl, hs⟩))
  exact ⟨rfl, trivial, HE.out _ hs⟩
 obtain ⟨nn, rfl⟩ : ∃ m : Nat, n = (m : Int) := ⟨n.toNat, by omega⟩
 have hn1 : 1 ≤ nn := by omega
 have f1 : decide ((1 : Int) ≤ (nn : Int)) = true := by simp; omega
 have HNN := Lib.hid hn
 clear hn
 have HH := Lib.hid (And.intro (And.intro ho hw) (And.intro (And.intro hRL hk) (And.intro hsz hl)))
 have CI : Hid (insd z lba (nn : Int) = true → ∀ (w : World), St w0 X (.blk g 71 RL :: .own 3 (some ga) (some ⟨ga, oa, none⟩) k cc (ocs l) :: L) w → Calls Try.prog 37 #[.pointer (some ⟨g, 0, none⟩), .int .i64 lba, .int .i64 (nn : Int)] w fun e w' => e = .returned (.tuple #[]) ∧ St w0 X (.blk g 71 RL :: .own 3 (some ga) (some ⟨ga, oa, none⟩) k cc (ocs l) :: L) w') := Lib.hid (fun hi w hs => by
  rw [← e1] at hs ⊢
  exact inside_ok hs ho hi)
 have CB : Hid (insd z lba (nn : Int) = false → ∀ (w : World), St w0 X (.blk g 71 RL :: .own 3 (some ga) (some ⟨ga, oa, none⟩) k cc (ocs l) :: L) w → Calls Try.prog 37 #[.pointer (some ⟨g, 0, none⟩), .int .i64 lba, .int .i64 (nn : Int)] w fun e w' => e = .panicked (chS 128) ∧ St w0 X (.blk g 71 RL :: .own 3 (some ga) (some ⟨ga, oa, none⟩) k cc (ocs l) :: L) w') := Lib.hid (fun hi w hs => by
  rw [← e1] at hs ⊢
  exact inside_bad hs ho hi)
 clear e1 e2 hRL hk hsz hl ho hw
 go_enter Try.func35, Try.ntmps35
 go_upto_region 1 with (first | ((with_reducible refine Se.isL (o := ⟨some 6, _, _, _, _, _⟩) ?_); (refine Se.toL rfl (Se.ld (o := ⟨some 6, _, _, _, _, _⟩) hs rfl rfl (HN.out) (by kernel_rfl) ?_))) | (go_at_call 36; refine Calls.mono (must_t hs 2) ?_; clear hs; rintro e w ⟨rfl, hs⟩))
 cases hin : insd z lba (nn : Int) with
 | false =>
  have CB2 := Lib.hid (CB.out hin)
  have HE := Lib.hid (BAD.out 128 (by decide) (by unfold writeE; rw [if_neg (show ¬ ((nn : Int) < 1) by omega), if_pos hin]))
  clear hin CI CB BAD
  go_wp2_with (first | ((with_reducible refine Se.isL (o := ⟨some 10, _, _, _, _, _⟩) ?_); (refine Se.toL rfl (Se.ld (o := ⟨some 10, _, _, _, _, _⟩) hs rfl rfl (HB.out) (by kernel_rfl) ?_))) | ((with_reducible refine Se.isL (o := ⟨some 11, _, _, _, _, _⟩) ?_); (refine Se.toL rfl (Se.ld (o := ⟨some 11, _, _, _, _, _⟩) hs rfl rfl (HN.out) (by kernel_rfl) ?_))) | (go_at_call 37; refine Calls.mono (CB2.out _ hs) ?_; clear hs; rintro e w ⟨rfl, hs⟩))
  exact ⟨rfl, trivial, HE.out _ hs⟩
 | true =>
 have CI2 := Lib.hid (CI.out hin)
 obtain ⟨lb, rfl⟩ : ∃ m : Nat, lba = (m : Int) := ⟨lba.toNat, by have := insd_pos hin; omega⟩
 obtain ⟨i, hi⟩ : ∃ i, i = lb / sz := ⟨_, rfl⟩
 obtain ⟨at0, hat⟩ : ∃ i, i = lb % sz := ⟨_, rfl⟩
 have hii := insd_i HH.out.1.1 (m := nn) hin hn1
 rw [← HH.out.2.2.1, ← HH.out.2.1.2, ← hi, ← hat] at hii
 obtain ⟨hik, hlb, hats⟩ := hii
 have d1 : ((lb : Int)).tdiv (sz : Int) = (i : Int) := by rw [Int.tdiv_eq_ediv_of_nonneg (by omega), hi]; rfl
 have d2 : ((lb : Int)).tmod (sz : Int) = (at0 : Int) := by rw [Int.tmod_eq_emod_of_nonneg (by omega), hat]; rfl
 have d0 : ¬ ((sz : Int) = 0) := by omega
 have d3 : ((sz : Int) == 0) = false := by simp; omega
 have d4 : ¬ sz = 0 := by omega
 have hil : i < l.length := by rw [HH.out.2.2.2, ← HH.out.2.1.2]; exact hik
 obtain ⟨x, hx⟩ : ∃ x, x = l.getD i dz := ⟨_, rfl⟩
 obtain ⟨p, hp⟩ : ∃ p, p = x.p := ⟨_, rfl⟩
 obtain ⟨st, hst⟩ : ∃ s, s = x.st := ⟨_, rfl⟩
 have hpc : p ≤ 65536 := by
  have h := HH.out.1.1
  have h2 := (h.2.2.2.2.2.2.2.2.2 _ (getD_mem (l := z.l) (by rw [← HH.out.2.2.2]; exact hil))).2.2.1
  rw [← HH.out.2.2.2, ← hx, ← hp] at h2
  have := h.2.2.2.2.2.2.1
  have := h.2.2.2.2.1
  omega
 have CCP : Hid (Cell (.blk g 71 RL :: .own 3 (some ga) (some ⟨ga, oa, none⟩) k cc (ocs l) :: L) ga (oa + i * 3 + 1) (iv p)) := Lib.hid (fun w hw => by
  have h := ocs_at l i hil 1 (by decide)
  have h2 := ((Reads.own 1 rfl : Reads (.blk g 71 RL :: .own 3 (some ga) (some ⟨ga, oa, none⟩) k cc (ocs l) :: L) _ _).cell (i * 3 + 1) (v := iv p) (by rw [h, hp, hx, getD_get hil]; rfl)) w hw
  rwa [← Nat.add_assoc] at h2)
 have CWR : Hid (∀ (w : World), St w0 X (.blk g 71 RL :: .own 3 (some ga) (some ⟨ga, oa, none⟩) k cc (ocs l) :: L) w → Calls Try.prog 38 #[.pointer (some ⟨g, 0, none⟩), .int .i64 (i : Int)] w fun e' w' => ((blkd st = 0 ∧ e' = .returned (.tuple #[])) ∨ (blkd st ≠ 0 ∧ e' = .panicked (chS (blkd st)))) ∧ St w0 X (.blk g 71 RL :: .own 3 (some ga) (some ⟨ga, oa, none⟩) k cc (ocs l) :: L) w') := Lib.hid (fun w hs => by
  rw [← E12.out.1, ← E12.out.2] at hs ⊢
  exact (writable_st hs HH.out.1.1 (i := i) (by rw [← HH.out.2.2.2]; exact hil) (by rw [hst, hx, HH.out.2.2.2])).mono (fun e w h => h.2))
 have CPU : Hid (∀ (w : World), St w0 X (.blk g 71 RL :: .own 3 (some ga) (some ⟨ga, oa, none⟩) k cc (ocs l) :: L) w → Calls Try.prog 39 #[.pointer (some ⟨g, 0, none⟩), .int .i64 (i : Int), .int .i64 (nn : Int)] w fun e' w' => True ∧ ER w0 X L g cc ⟨ga, oa, none⟩ (some ga) (putE z i nn) e' w') := Lib.hid (fun w hs => by
  rw [← E12.out.1, ← E12.out.2] at hs
  exact put_st hs HH.out.1.1 HH.out.1.2 (by rw [← HH.out.2.2.2]; exact hil))
 have wi : IntKind.i64.wrap (i : Int) = (i : Int) := IntWalk.i64_in _ (by omega)
 have wt : IntKind.i64.wrap (at0 : Int) = (at0 : Int) := IntWalk.i64_in _ (by omega)
 have hik' : (i : Int) < (k : Int) := by omega
 have WE : Hid (writeE z (lb : Int) (nn : Int) = (if sz < at0 + nn then (z, 184) else if blkd st ≠ 0 then (z, blkd st) else if at0 ≠ p then (z, 188) else putE z i nn)) := Lib.hid (by
  unfold writeE
  rw [if_neg (show ¬ ((nn : Int) < 1) by omega), if_neg (by rw [hin]; decide)]
  simp only [Int.toNat_natCast]
  rw [← HH.out.2.2.1, ← hi, ← hat, ← HH.out.2.2.2, ← hx, ← hst, ← hp])
 clear hi hat hx hp hst hin CI CB hil
 go_upto_region 2 with (first | ((with_reducible refine Se.isL (o := ⟨some 10, _, _, _, _, _⟩) ?_); (refine Se.toL rfl (Se.ld (o := ⟨some 10, _, _, _, _, _⟩) hs rfl rfl (HB.out) (by kernel_rfl) ?_))) | ((with_reducible refine Se.isL (o := ⟨some 11, _, _, _, _, _⟩) ?_); (refine Se.toL rfl (Se.ld (o := ⟨some 11, _, _, _, _, _⟩) hs rfl rfl (HN.out) (by kernel_rfl) ?_))) | (go_at_call 37; refine Calls.mono (CI2.out _ hs) ?_; clear hs; rintro e w ⟨rfl, hs⟩))
 refine Ch.region' 16 (fun wx => Blk wx g RL 71 ∧ wx.cell? ⟨gl, 0, none⟩ = some (.int .i64 (lb : Int))) (fun  | _ => false) (by kernel_rfl) (by decide +kernel) (⟨hs.drew.hold (.blk g 71 RL) (by simp), HB.out _ hs.drew.hold⟩) ?_
 replace hs := hs.drew
 generalize w.drew = w at hs ⊢
 change Ch.CW _ _ _ _ _ [0, 1, 2, 3, 4, 5, 6, 7, 8, 9, 10, 11, 12, 13, 14, 15] _ _
 iterate 6 ((first | (refine Ch.pure (v := ?_) (by rfl) (by rfl) (by rfl) (fun wx hS => ?_) ?_; rotate_left; (focus (go_simp; (first | done | with_reducible rfl)))) | refine Ch.pure (v := _) (by rfl) (by rfl) (by rfl) (fun wx hS => Se.xl rfl rfl (by rw [hS.1.cell]; exact R1.out) (by decide +kernel)) ?_ | refine Ch.pure (v := _) (by rfl) (by rfl) (by rfl) (fun wx hS => Se.xl rfl rfl hS.2 (by decide +kernel)) ?_); (try simp only [Act.put, List.setIfInBounds_toArray, List.set_cons_zero, List.set_cons_succ]))
 refine Ch.pure (v := .int .i64 (i : Int)) (by rfl) (by rfl) (by rfl) (fun wx hS => by go_simp) ?_
 (try simp only [Act.put, List.setIfInBounds_toArray, List.set_cons_zero, List.set_cons_succ])
 iterate 6 ((first | (refine Ch.pure (v := ?_) (by rfl) (by rfl) (by rfl) (fun wx hS => ?_) ?_; rotate_left; (focus (go_simp; (first | done | with_reducible rfl)))) | refine Ch.pure (v := _) (by rfl) (by rfl) (by rfl) (fun wx hS => Se.xl rfl rfl (by rw [hS.1.cell]; exact R1.out) (by decide +kernel)) ?_ | refine Ch.pure (v := _) (by rfl) (by rfl) (by rfl) (fun wx hS => Se.xl rfl rfl hS.2 (by decide +kernel)) ?_); (try simp only [Act.put, List.setIfInBounds_toArray, List.set_cons_zero, List.set_cons_succ]))
 refine Ch.pure (v := .int .i64 (at0 : Int)) (by rfl) (by rfl) (by rfl) (fun wx hS => by go_simp) ?_
 (try simp only [Act.put, List.setIfInBounds_toArray, List.set_cons_zero, List.set_cons_succ])
 iterate 2 ((first | (refine Ch.pure (v := ?_) (by rfl) (by rfl) (by rfl) (fun wx hS => ?_) ?_; rotate_left; (focus (go_simp; (first | done | with_reducible rfl))))); (try simp only [Act.put, List.setIfInBounds_toArray, List.set_cons_zero, List.set_cons_succ]))
 refine Ch.done ?_
 try simp only [List.drop_succ_cons, List.drop_zero]
 go_upto_region 3 with (fail)
 have w1 : IntKind.i64.wrap ((sz : Int) - (at0 : Int)) = (sz : Int) - (at0 : Int) := IntWalk.i64_in _ (by omega)
 by_cases h184 : sz < at0 + nn
 ·have g1 : decide ((nn : Int) ≤ (sz : Int) - (at0 : Int)) = false := by simp; omega
  have HE := Lib.hid (BAD.out 184 (by decide) (by rw [WE.out]; rw [if_pos h184]))
  clear BAD h184
  refine Ch.region' 9 (fun wx => Blk wx g RL 71 ∧ wx.cell? ⟨gn, 0, none⟩ = some (.int .i64 (nn : Int))) (fun  | _ => false) (by kernel_rfl) (by decide +kernel) (⟨hs.drew.hold (.blk g 71 RL) (by simp), HN.out _ hs.drew.hold⟩) ?_
  replace hs := hs.drew
  generalize w.drew = w at hs ⊢
  change Ch.CW _ _ _ _ _ [0, 1, 2, 3, 4, 5, 6, 7, 8] _ _
  iterate 9 ((first | (refine Ch.pure (v := ?_) (by rfl) (by rfl) (by rfl) (fun wx hS => ?_) ?_; rotate_left; (focus (go_simp; (first | done | with_reducible rfl)))) | refine Ch.pure (v := _) (by rfl) (by rfl) (by rfl) (fun wx hS => Se.xl rfl rfl (by rw [hS.1.cell]; exact R1.out) (by decide +kernel)) ?_ | refine Ch.pure (v := _) (by rfl) (by rfl) (by rfl) (fun wx hS => Se.xl rfl rfl hS.2 (by decide +kernel)) ?_); (try simp only [Act.put, List.setIfInBounds_toArray, List.set_cons_zero, List.set_cons_succ]))
  refine Ch.done ?_
  try simp only [List.drop_succ_cons, List.drop_zero]
  go_wp2_with (first | (go_at_call 36; refine Calls.mono (must_f hs 184 (by decide)) ?_; clear hs; rintro e w ⟨rfl, hs⟩))
  exact ⟨rfl, trivial, HE.out _ hs⟩
 have g1 : decide ((nn : Int) ≤ (sz : Int) - (at0 : Int)) = true := by simp; omega
 refine Ch.region' 9 (fun wx => Blk wx g RL 71 ∧ wx.cell? ⟨gn, 0, none⟩ = some (.int .i64 (nn : Int))) (fun  | _ => false) (by kernel_rfl) (by decide +kernel) (⟨hs.drew.hold (.blk g 71 RL) (by simp), HN.out _ hs.drew.hold⟩) ?_
 replace hs := hs.drew
 generalize w.drew = w at hs ⊢
 change Ch.CW _ _ _ _ _ [0, 1, 2, 3, 4, 5, 6, 7, 8] _ _
 iterate 9 ((first | (refine Ch.pure (v := ?_) (by rfl) (by rfl) (by rfl) (fun wx hS => ?_) ?_; rotate_left; (focus (go_simp; (first | done | with_reducible rfl)))) | refine Ch.pure (v := _) (by rfl) (by rfl) (by rfl) (fun wx hS => Se.xl rfl rfl (by rw [hS.1.cell]; exact R1.out) (by decide +kernel)) ?_ | refine Ch.pure (v := _) (by rfl) (by rfl) (by rfl) (fun wx hS => Se.xl rfl rfl hS.2 (by decide +kernel)) ?_); (try simp only [Act.put, List.setIfInBounds_toArray, List.set_cons_zero, List.set_cons_succ]))
 refine Ch.done ?_
 try simp only [List.drop_succ_cons, List.drop_zero]
 go_upto_region 4 with (first | (go_at_call 36; refine Calls.mono (must_t hs 184) ?_; clear hs; rintro e w ⟨rfl, hs⟩))
 by_cases hbl : blkd st = 0
 rotate_left
 ·have HE := Lib.hid (BAD.out (blkd st) hbl (by rw [WE.out]; rw [if_neg h184, if_pos hbl]))
  have CW2 : Hid (∀ (w : World), St w0 X (.blk g 71 RL :: .own 3 (some ga) (some ⟨ga, oa, none⟩) k cc (ocs l) :: L) w → Calls Try.prog 38 #[.pointer (some ⟨g, 0, none⟩), .int .i64 (i : Int)] w fun e' w' => e' = .panicked (chS (blkd st)) ∧ St w0 X (.blk g 71 RL :: .own 3 (some ga) (some ⟨ga, oa, none⟩) k cc (ocs l) :: L) w') := Lib.hid (fun w hs => (CWR.out w hs).mono (by
   rintro e w ⟨⟨h1, _⟩ | ⟨_, h1⟩, h2⟩
   ·exact absurd h1 hbl
   ·exact ⟨h1, h2⟩))
  clear BAD h184 CWR hbl
  go_wp2_with (first | (go_at_call 38; refine Calls.mono (CW2.out _ hs) ?_; clear hs; rintro e w ⟨rfl, hs⟩))
  exact ⟨rfl, trivial, HE.out _ hs⟩
 have CW2 : Hid (∀ (w : World), St w0 X (.blk g 71 RL :: .own 3 (some ga) (some ⟨ga, oa, none⟩) k cc (ocs l) :: L) w → Calls Try.prog 38 #[.pointer (some ⟨g, 0, none⟩), .int .i64 (i : Int)] w fun e' w' => e' = .returned (.tuple #[]) ∧ St w0 X (.blk g 71 RL :: .own 3 (some ga) (some ⟨ga, oa, none⟩) k cc (ocs l) :: L) w') := Lib.hid (fun w hs => (CWR.out w hs).mono (by
  rintro e w ⟨⟨_, h1⟩ | ⟨h1, _⟩, h2⟩
  ·exact ⟨h1, h2⟩
  ·exact absurd hbl h1))
 have HX := Lib.hid (And.intro h184 hbl)
 clear CWR h184 hbl
 go_upto_region 5 with (first | (go_at_call 38; refine Calls.mono (CW2.out _ hs) ?_; clear hs; rintro e w ⟨rfl, hs⟩))
 by_cases hpt : at0 = p
 rotate_left
 ·have g2 : ((at0 : Int) == (p : Int)) = false := by simp; omega
  have HE := Lib.hid (BAD.out 188 (by decide) (by rw [WE.out]; rw [if_neg HX.out.1, if_neg (by simpa using HX.out.2), if_pos hpt]))
  clear BAD hpt
  go_wp2_with (first | ((with_reducible refine Se.isL (o := ⟨some 44, _, _, _, _, _⟩) ?_); (refine Se.toL rfl (Se.ld (o := ⟨some 44, _, _, _, _, _⟩) hs rfl rfl (Cell.blk 0 rfl R5.out) (by kernel_rfl) ?_))) | ((with_reducible refine Se.isL (o := ⟨some 48, _, _, _, _, _⟩) ?_); (refine Se.toL rfl (Se.ld (o := ⟨some 48, _, _, _, _, _⟩) hs rfl rfl (CCP.out) (by kernel_rfl) ?_))) | (go_at_call 36; refine Calls.mono (must_f hs 188 (by decide)) ?_; clear hs; rintro e w ⟨rfl, hs⟩))
  exact ⟨rfl, trivial, HE.out _ hs⟩
 have g2 : ((at0 : Int) == (p : Int)) = true := by simp; omega
 have WE2 := Lib.hid (show writeE z (lb : Int) (nn : Int) = putE z i nn by rw [WE.out]; rw [if_neg HX.out.1, if_neg (by simpa using HX.out.2), if_neg (by simpa using hpt)])
 clear BAD hpt WE
 go_upto_region 6 with (first | ((with_reducible refine Se.isL (o := ⟨some 44, _, _, _, _, _⟩) ?_); (refine Se.toL rfl (Se.ld (o := ⟨some 44, _, _, _, _, _⟩) hs rfl rfl (Cell.blk 0 rfl R5.out) (by kernel_rfl) ?_))) | ((with_reducible refine Se.isL (o := ⟨some 48, _, _, _, _, _⟩) ?_); (refine Se.toL rfl (Se.ld (o := ⟨some 48, _, _, _, _, _⟩) hs rfl rfl (CCP.out) (by kernel_rfl) ?_))) | (go_at_call 36; refine Calls.mono (must_t hs 188) ?_; clear hs; rintro e w ⟨rfl, hs⟩))
 by_cases hq : (putE z i nn).2 = 0
 ·have CP2 : Hid (∀ (w : World), St w0 X (.blk g 71 RL :: .own 3 (some ga) (some ⟨ga, oa, none⟩) k cc (ocs l) :: L) w → Calls Try.prog 39 #[.pointer (some ⟨g, 0, none⟩), .int .i64 (i : Int), .int .i64 (nn : Int)] w fun e' w' => e' = .returned (.tuple #[]) ∧ St w0 X (pZ g (putE z i nn).1 (some ⟨ga, oa, none⟩) cc :: pL (some ga) (some ⟨ga, oa, none⟩) cc (putE z i nn).1 :: L) w') := Lib.hid (fun w hs => (CPU.out w hs).mono (by
   rintro e w ⟨_, ⟨_, h1, h2⟩ | ⟨h1, _⟩⟩
   ·exact ⟨h1, h2⟩
   ·exact absurd hq h1))
  have HF : Hid (∀ w, St w0 X (pZ g (putE z i nn).1 (some ⟨ga, oa, none⟩) cc :: pL (some ga) (some ⟨ga, oa, none⟩) cc (putE z i nn).1 :: L) w → ER w0 X L g cc ⟨ga, oa, none⟩ (some ga) (writeE z (lb : Int) (nn : Int)) (.returned (.tuple #[])) w) := Lib.hid (fun w hs => by rw [WE2.out]; exact .inl ⟨hq, rfl, hs⟩)
  clear CPU hq WE2
  go_wp2_with (first | ((with_reducible refine Se.isL (o := ⟨some 53, _, _, _, _, _⟩) ?_); (refine Se.toL rfl (Se.ld (o := ⟨some 53, _, _, _, _, _⟩) hs rfl rfl (HN.out) (by kernel_rfl) ?_))) | (go_at_call 39; refine Calls.mono (CP2.out _ hs) ?_; clear hs; rintro e w ⟨rfl, hs⟩))
  go_end0
  first | exact HF.out _ hs | exact ⟨trivial, HF.out _ hs⟩
 ·have CP2 : Hid (∀ (w : World), St w0 X (.blk g 71 RL :: .own 3 (some ga) (some ⟨ga, oa, none⟩) k cc (ocs l) :: L) w → Calls Try.prog 39 #[.pointer (some ⟨g, 0, none⟩), .int .i64 (i : Int), .int .i64 (nn : Int)] w fun e' w' => e' = .panicked (chS (putE z i nn).2) ∧ ∃ z', St w0 X (pZ g z' (some ⟨ga, oa, none⟩) cc :: pL (some ga) (some ⟨ga, oa, none⟩) cc z' :: L) w') := Lib.hid (fun w hs => (CPU.out w hs).mono (by
   rintro e w ⟨_, ⟨h1, _⟩ | ⟨_, h1, h2⟩⟩
   ·exact absurd h1 hq
   ·exact ⟨h1, h2⟩))
  have HQ := Lib.hid hq
  clear CPU hq
  go_wp2_with (first | ((with_reducible refine Se.isL (o := ⟨some 53, _, _, _, _, _⟩) ?_); (refine Se.toL rfl (Se.ld (o := ⟨some 53, _, _, _, _, _⟩) hs rfl rfl (HN.out) (by kernel_rfl) ?_))) | (go_at_call 39; refine Calls.mono (CP2.out _ hs) ?_; clear hs; rintro e w ⟨rfl, z', hs⟩))
  exact ⟨rfl, trivial, .inr (by rw [WE2.out]; exact ⟨HQ.out, rfl, z', hs⟩)⟩
theorem append1_st {g cc gn gl gat : Nat} {z : Zs} {a : Addr} {r : Option Nat} (hs : St w0 X (pZ g z (some a) cc :: pL r (some a) cc z :: .blk gat 3 [iv 0] :: L) w) (ho : OkZ z) (hw : z.w < 1099511627776) {lba n : Int} (hN : Cell L gn 0 (.int .i64 n)) (hB : Cell L gl 0 (.int .i64 lba)) :
  Calls Try.prog 72 #[.pointer (some ⟨g, 0, none⟩), .pointer (some ⟨gn, 0, none⟩), .pointer (some ⟨gl, 0, none⟩), .pointer (some ⟨gat, 0, none⟩)] w fun e' w' => True ∧ AR w0 X L g cc a r gat (appendE z lba n) e' w' := by
 have hk0 : 0 < z.l.length := by rw [ho.1]; exact ho.2.1
 obtain ⟨ga, oa, ha, hr⟩ := hs.own_at 1 rfl (by omega)
 obtain rfl : a = ⟨ga, oa, none⟩ := by simpa using ha
 subst hr
 clear ha
 obtain ⟨RL, hRL⟩ : ∃ RL, RL = zcl z (some ⟨ga, oa, none⟩) cc := ⟨_, rfl⟩
 obtain ⟨k, hk⟩ : ∃ n, n = z.l.length := ⟨_, rfl⟩
 have hk1 : k ≤ 4096 := by rw [hk, ho.1]; exact ho.2.2.1
 obtain ⟨sz, hsz⟩ : ∃ n, n = z.c.sz := ⟨_, rfl⟩
 have hsz1 : 1 ≤ sz := by rw [hsz]; exact ho.2.2.2.1
 have hsz2 : sz ≤ 65536 := by rw [hsz]; exact ho.2.2.2.2.1
 obtain ⟨l, hl⟩ : ∃ l, l = z.l := ⟨_, rfl⟩
 have R5 := Lib.hid (show RL[5]? = some (.slice (some ⟨ga, oa, none⟩) k cc) by rw [hRL, hk]; rfl)
 have R1 := Lib.hid (show RL[1]? = some (iv sz) by rw [hRL, hsz]; rfl)
 have e1 : pZ g z (some ⟨ga, oa, none⟩) cc = .blk g 71 RL := by rw [hRL]
 have e2 : pL (some ga) (some ⟨ga, oa, none⟩) cc z = .own 3 (some ga) (some ⟨ga, oa, none⟩) k cc (ocs l) := by unfold pL; rw [← hk, ← hl]
 have E12 := Lib.hid (And.intro e1 e2)
 have HN : Hid (Cell (.blk g 71 RL :: .own 3 (some ga) (some ⟨ga, oa, none⟩) k cc (ocs l) :: .blk gat 3 [iv 0] :: L) gn 0 (.int .i64 n)) := Lib.hid (capp [_, _, _] hN)
 have HB : Hid (Cell (.blk g 71 RL :: .own 3 (some ga) (some ⟨ga, oa, none⟩) k cc (ocs l) :: .blk gat 3 [iv 0] :: L) gl 0 (.int .i64 lba)) := Lib.hid (capp [_, _, _] hB)
 have BAD : Hid (∀ (c : Nat), c ≠ 0 → appendE z lba n = (z, 0, c) → ∀ w, St w0 X (.blk g 71 RL :: .own 3 (some ga) (some ⟨ga, oa, none⟩) k cc (ocs l) :: .blk gat 3 [iv 0] :: L) w → AR w0 X L g cc ⟨ga, oa, none⟩ (some ga) gat (appendE z lba n) (.panicked (chS c)) w) := Lib.hid (fun c hc he w hs => by
  rw [← e1, ← e2] at hs
  exact .inr (by rw [he]; exact ⟨hc, rfl, z, hs⟩))
 rw [e1, e2] at hs
 clear hN hB hk0
 by_cases hn : n < 1
 ·have f1 : decide ((1 : Int) ≤ n) = false := by simp; omega
  have HE := Lib.hid (BAD.out 2 (by decide) (by unfold appendE; rw [if_pos hn]))
  clear e1 e2 E12 hRL hk hsz hl ho hw BAD hn
  go_enter Try.func72, Try.ntmps72
  go_wp2_with (first | ((with_reducible refine Se.isL (o := ⟨some 7, _, _, _, _, _⟩) ?_); (refine Se.toL rfl (Se.ld (o := ⟨some 7, _, _, _, _, _⟩) hs rfl rfl (HN.out) (by kernel_rfl) ?_))) | (go_at_call 36; refine Calls.mono (must_f hs 2 (by decide)) ?_; clear hs; rintro e w ⟨rfl, hs⟩))
  exact ⟨rfl, trivial, HE.out _ hs⟩
 obtain ⟨nn, rfl⟩ : ∃ m : Nat, n = (m : Int) := ⟨n.toNat, by omega⟩
 have hn1 : 1 ≤ nn := by omega
 have f1 : decide ((1 : Int) ≤ (nn : Int)) = true := by simp; omega
 have HNN := Lib.hid hn
 clear hn
 have HH := Lib.hid (And.intro (And.intro ho hw) (And.intro (And.intro hRL hk) (And.intro hsz hl)))
 have CI : Hid (insd z lba 1 = true → ∀ (w : World), St w0 X (.blk g 71 RL :: .own 3 (some ga) (some ⟨ga, oa, none⟩) k cc (ocs l) :: .blk gat 3 [iv 0] :: L) w → Calls Try.prog 37 #[.pointer (some ⟨g, 0, none⟩), .int .i64 lba, .int .i64 1] w fun e w' => e = .returned (.tuple #[]) ∧ St w0 X (.blk g 71 RL :: .own 3 (some ga) (some ⟨ga, oa, none⟩) k cc (ocs l) :: .blk gat 3 [iv 0] :: L) w') := Lib.hid (fun hi w hs => by
  rw [← e1] at hs ⊢
  exact inside_ok hs ho hi)
 have CB : Hid (insd z lba 1 = false → ∀ (w : World), St w0 X (.blk g 71 RL :: .own 3 (some ga) (some ⟨ga, oa, none⟩) k cc (ocs l) :: .blk gat 3 [iv 0] :: L) w → Calls Try.prog 37 #[.pointer (some ⟨g, 0, none⟩), .int .i64 lba, .int .i64 1] w fun e w' => e = .panicked (chS 128) ∧ St w0 X (.blk g 71 RL :: .own 3 (some ga) (some ⟨ga, oa, none⟩) k cc (ocs l) :: .blk gat 3 [iv 0] :: L) w') := Lib.hid (fun hi w hs => by
  rw [← e1] at hs ⊢
  exact inside_bad hs ho hi)
 clear e1 e2 hRL hk hsz hl ho hw
 go_enter Try.func72, Try.ntmps72
 go_upto_region 1 with (first | ((with_reducible refine Se.isL (o := ⟨some 7, _, _, _, _, _⟩) ?_); (refine Se.toL rfl (Se.ld (o := ⟨some 7, _, _, _, _, _⟩) hs rfl rfl (HN.out) (by kernel_rfl) ?_))) | (go_at_call 36; refine Calls.mono (must_t hs 2) ?_; clear hs; rintro e w ⟨rfl, hs⟩))
 cases hin : insd z lba 1 with
 | false =>
  have CB2 := Lib.hid (CB.out hin)
  have HE := Lib.hid (BAD.out 128 (by decide) (by unfold appendE; rw [if_neg (show ¬ ((nn : Int) < 1) by omega), if_pos hin]))
  clear hin CI CB BAD
  go_wp2_with (first | ((with_reducible refine Se.isL (o := ⟨some 11, _, _, _, _, _⟩) ?_); (refine Se.toL rfl (Se.ld (o := ⟨some 11, _, _, _, _, _⟩) hs rfl rfl (HB.out) (by kernel_rfl) ?_))) | (go_at_call 37; refine Calls.mono (CB2.out _ hs) ?_; clear hs; rintro e w ⟨rfl, hs⟩))
  exact ⟨rfl, trivial, HE.out _ hs⟩
 | true =>
 have CI2 := Lib.hid (CI.out hin)
 obtain ⟨lb, rfl⟩ : ∃ m : Nat, lba = (m : Int) := ⟨lba.toNat, by have := insd_pos hin; omega⟩
 obtain ⟨i, hi⟩ : ∃ i, i = lb / sz := ⟨_, rfl⟩
 obtain ⟨at0, hat⟩ : ∃ i, i = lb % sz := ⟨_, rfl⟩
 have hii := insd_i HH.out.1.1 (m := 1) hin (by decide)
 rw [← HH.out.2.2.1, ← HH.out.2.1.2, ← hi, ← hat] at hii
 obtain ⟨hik, hlb, hats⟩ := hii
 have d1 : ((lb : Int)).tdiv (sz : Int) = (i : Int) := by rw [Int.tdiv_eq_ediv_of_nonneg (by omega), hi]; rfl
 have d2 : ((lb : Int)).tmod (sz : Int) = (at0 : Int) := by rw [Int.tmod_eq_emod_of_nonneg (by omega), hat]; rfl
 have d0 : ¬ ((sz : Int) = 0) := by omega
 have d3 : ((sz : Int) == 0) = false := by simp; omega
 have d4 : ¬ sz = 0 := by omega
 have hil : i < l.length := by rw [HH.out.2.2.2, ← HH.out.2.1.2]; exact hik
 obtain ⟨x, hx⟩ : ∃ x, x = l.getD i dz := ⟨_, rfl⟩
 obtain ⟨p, hp⟩ : ∃ p, p = x.p := ⟨_, rfl⟩
 obtain ⟨st, hst⟩ : ∃ s, s = x.st := ⟨_, rfl⟩
 have hpc : p ≤ 65536 := by
  have h := HH.out.1.1
  have h2 := (h.2.2.2.2.2.2.2.2.2 _ (getD_mem (l := z.l) (by rw [← HH.out.2.2.2]; exact hil))).2.2.1
  rw [← HH.out.2.2.2, ← hx, ← hp] at h2
  have := h.2.2.2.2.2.2.1
  have := h.2.2.2.2.1
  omega
 have CCP : Hid (Cell (.blk g 71 RL :: .own 3 (some ga) (some ⟨ga, oa, none⟩) k cc (ocs l) :: .blk gat 3 [iv 0] :: L) ga (oa + i * 3 + 1) (iv p)) := Lib.hid (fun w hw => by
  have h := ocs_at l i hil 1 (by decide)
  have h2 := ((Reads.own 1 rfl : Reads (.blk g 71 RL :: .own 3 (some ga) (some ⟨ga, oa, none⟩) k cc (ocs l) :: .blk gat 3 [iv 0] :: L) _ _).cell (i * 3 + 1) (v := iv p) (by rw [h, hp, hx, getD_get hil]; rfl)) w hw
  rwa [← Nat.add_assoc] at h2)
 have CWR : Hid (∀ (w : World), St w0 X (.blk g 71 RL :: .own 3 (some ga) (some ⟨ga, oa, none⟩) k cc (ocs l) :: .blk gat 3 [iv 0] :: L) w → Calls Try.prog 38 #[.pointer (some ⟨g, 0, none⟩), .int .i64 (i : Int)] w fun e' w' => ((blkd st = 0 ∧ e' = .returned (.tuple #[])) ∨ (blkd st ≠ 0 ∧ e' = .panicked (chS (blkd st)))) ∧ St w0 X (.blk g 71 RL :: .own 3 (some ga) (some ⟨ga, oa, none⟩) k cc (ocs l) :: .blk gat 3 [iv 0] :: L) w') := Lib.hid (fun w hs => by
  rw [← E12.out.1, ← E12.out.2] at hs ⊢
  exact (writable_st hs HH.out.1.1 (i := i) (by rw [← HH.out.2.2.2]; exact hil) (by rw [hst, hx, HH.out.2.2.2])).mono (fun e w h => h.2))
 have CPU : Hid (∀ (w : World), St w0 X (.blk g 71 RL :: .own 3 (some ga) (some ⟨ga, oa, none⟩) k cc (ocs l) :: .blk gat 3 [iv 0] :: L) w → Calls Try.prog 39 #[.pointer (some ⟨g, 0, none⟩), .int .i64 (i : Int), .int .i64 (nn : Int)] w fun e' w' => True ∧ ER w0 X (.blk gat 3 [iv 0] :: L) g cc ⟨ga, oa, none⟩ (some ga) (putE z i nn) e' w') := Lib.hid (fun w hs => by
  rw [← E12.out.1, ← E12.out.2] at hs
  exact put_st hs HH.out.1.1 HH.out.1.2 (by rw [← HH.out.2.2.2]; exact hil))
 have wi : IntKind.i64.wrap (i : Int) = (i : Int) := IntWalk.i64_in _ (by omega)
 have wt : IntKind.i64.wrap (at0 : Int) = (at0 : Int) := IntWalk.i64_in _ (by omega)
 have hik' : (i : Int) < (k : Int) := by omega
 have WE : Hid (appendE z (lb : Int) (nn : Int) = (if at0 ≠ 0 then (z, 0, 2) else if blkd st ≠ 0 then (z, 0, blkd st) else if (putE z i nn).2 = 0 then ((putE z i nn).1, lb + p, 0) else (z, 0, (putE z i nn).2))) := Lib.hid (by
  unfold appendE
  rw [if_neg (show ¬ ((nn : Int) < 1) by omega), if_neg (by rw [hin]; decide)]
  simp only [Int.toNat_natCast]
  rw [← HH.out.2.2.1, ← hi, ← hat, ← HH.out.2.2.2, ← hx, ← hst, ← hp])
 clear hi hat hx hp hst hin CI CB hil
 go_upto_region 2 with (first | ((with_reducible refine Se.isL (o := ⟨some 11, _, _, _, _, _⟩) ?_); (refine Se.toL rfl (Se.ld (o := ⟨some 11, _, _, _, _, _⟩) hs rfl rfl (HB.out) (by kernel_rfl) ?_))) | (go_at_call 37; refine Calls.mono (CI2.out _ hs) ?_; clear hs; rintro e w ⟨rfl, hs⟩))
 by_cases h0 : at0 = 0
 rotate_left
 ·have g1 : ((at0 : Int) == 0) = false := by simp; omega
  have HE := Lib.hid (BAD.out 2 (by decide) (by rw [WE.out]; rw [if_pos h0]))
  clear BAD h0
  refine Ch.region' 8 (fun wx => Blk wx g RL 71 ∧ wx.cell? ⟨gl, 0, none⟩ = some (.int .i64 (lb : Int))) (fun  | _ => false) (by kernel_rfl) (by decide +kernel) (⟨hs.drew.hold (.blk g 71 RL) (by simp), HB.out _ hs.drew.hold⟩) ?_
  replace hs := hs.drew
  generalize w.drew = w at hs ⊢
  change Ch.CW _ _ _ _ _ [0, 1, 2, 3, 4, 5, 6, 7] _ _
  iterate 6 ((first | (refine Ch.pure (v := ?_) (by rfl) (by rfl) (by rfl) (fun wx hS => ?_) ?_; rotate_left; (focus (go_simp; (first | done | with_reducible rfl)))) | refine Ch.pure (v := _) (by rfl) (by rfl) (by rfl) (fun wx hS => Se.xl rfl rfl (by rw [hS.1.cell]; exact R1.out) (by decide +kernel)) ?_ | refine Ch.pure (v := _) (by rfl) (by rfl) (by rfl) (fun wx hS => Se.xl rfl rfl hS.2 (by decide +kernel)) ?_); (try simp only [Act.put, List.setIfInBounds_toArray, List.set_cons_zero, List.set_cons_succ]))
  refine Ch.pure (v := .int .i64 (at0 : Int)) (by rfl) (by rfl) (by rfl) (fun wx hS => by go_simp) ?_
  (try simp only [Act.put, List.setIfInBounds_toArray, List.set_cons_zero, List.set_cons_succ])
  iterate 1 ((first | (refine Ch.pure (v := ?_) (by rfl) (by rfl) (by rfl) (fun wx hS => ?_) ?_; rotate_left; (focus (go_simp; (first | done | with_reducible rfl))))); (try simp only [Act.put, List.setIfInBounds_toArray, List.set_cons_zero, List.set_cons_succ]))
  refine Ch.done ?_
  try simp only [List.drop_succ_cons, List.drop_zero]
  go_wp2_with (first | (go_at_call 36; refine Calls.mono (must_f hs 2 (by decide)) ?_; clear hs; rintro e w ⟨rfl, hs⟩))
  exact ⟨rfl, trivial, HE.out _ hs⟩
 have g1 : ((at0 : Int) == 0) = true := by simp; omega
 refine Ch.region' 8 (fun wx => Blk wx g RL 71 ∧ wx.cell? ⟨gl, 0, none⟩ = some (.int .i64 (lb : Int))) (fun  | _ => false) (by kernel_rfl) (by decide +kernel) (⟨hs.drew.hold (.blk g 71 RL) (by simp), HB.out _ hs.drew.hold⟩) ?_
 replace hs := hs.drew
 generalize w.drew = w at hs ⊢
 change Ch.CW _ _ _ _ _ [0, 1, 2, 3, 4, 5, 6, 7] _ _
 iterate 6 ((first | (refine Ch.pure (v := ?_) (by rfl) (by rfl) (by rfl) (fun wx hS => ?_) ?_; rotate_left; (focus (go_simp; (first | done | with_reducible rfl)))) | refine Ch.pure (v := _) (by rfl) (by rfl) (by rfl) (fun wx hS => Se.xl rfl rfl (by rw [hS.1.cell]; exact R1.out) (by decide +kernel)) ?_ | refine Ch.pure (v := _) (by rfl) (by rfl) (by rfl) (fun wx hS => Se.xl rfl rfl hS.2 (by decide +kernel)) ?_); (try simp only [Act.put, List.setIfInBounds_toArray, List.set_cons_zero, List.set_cons_succ]))
 refine Ch.pure (v := .int .i64 (at0 : Int)) (by rfl) (by rfl) (by rfl) (fun wx hS => by go_simp) ?_
 (try simp only [Act.put, List.setIfInBounds_toArray, List.set_cons_zero, List.set_cons_succ])
 iterate 1 ((first | (refine Ch.pure (v := ?_) (by rfl) (by rfl) (by rfl) (fun wx hS => ?_) ?_; rotate_left; (focus (go_simp; (first | done | with_reducible rfl))))); (try simp only [Act.put, List.setIfInBounds_toArray, List.set_cons_zero, List.set_cons_succ]))
 refine Ch.done ?_
 try simp only [List.drop_succ_cons, List.drop_zero]
 go_upto_region 3 with (first | (go_at_call 36; refine Calls.mono (must_t hs 2) ?_; clear hs; rintro e w ⟨rfl, hs⟩))
 refine Ch.region' 8 (fun wx => Blk wx g RL 71 ∧ wx.cell? ⟨gl, 0, none⟩ = some (.int .i64 (lb : Int))) (fun  | _ => false) (by kernel_rfl) (by decide +kernel) (⟨hs.drew.hold (.blk g 71 RL) (by simp), HB.out _ hs.drew.hold⟩) ?_
 replace hs := hs.drew
 generalize w.drew = w at hs ⊢
 change Ch.CW _ _ _ _ _ [0, 1, 2, 3, 4, 5, 6, 7] _ _
 iterate 6 ((first | (refine Ch.pure (v := ?_) (by rfl) (by rfl) (by rfl) (fun wx hS => ?_) ?_; rotate_left; (focus (go_simp; (first | done | with_reducible rfl)))) | refine Ch.pure (v := _) (by rfl) (by rfl) (by rfl) (fun wx hS => Se.xl rfl rfl (by rw [hS.1.cell]; exact R1.out) (by decide +kernel)) ?_ | refine Ch.pure (v := _) (by rfl) (by rfl) (by rfl) (fun wx hS => Se.xl rfl rfl hS.2 (by decide +kernel)) ?_); (try simp only [Act.put, List.setIfInBounds_toArray, List.set_cons_zero, List.set_cons_succ]))
 refine Ch.pure (v := .int .i64 (i : Int)) (by rfl) (by rfl) (by rfl) (fun wx hS => by go_simp) ?_
 (try simp only [Act.put, List.setIfInBounds_toArray, List.set_cons_zero, List.set_cons_succ])
 iterate 1 ((first | (refine Ch.pure (v := ?_) (by rfl) (by rfl) (by rfl) (fun wx hS => ?_) ?_; rotate_left; (focus (go_simp; (first | done | with_reducible rfl))))); (try simp only [Act.put, List.setIfInBounds_toArray, List.set_cons_zero, List.set_cons_succ]))
 refine Ch.done ?_
 try simp only [List.drop_succ_cons, List.drop_zero]
 go_upto_region 4 with (fail)
 by_cases hbl : blkd st = 0
 rotate_left
 ·have HE := Lib.hid (BAD.out (blkd st) hbl (by rw [WE.out]; rw [if_neg (by simpa using h0), if_pos hbl]))
  have CW2 : Hid (∀ (w : World), St w0 X (.blk g 71 RL :: .own 3 (some ga) (some ⟨ga, oa, none⟩) k cc (ocs l) :: .blk gat 3 [iv 0] :: L) w → Calls Try.prog 38 #[.pointer (some ⟨g, 0, none⟩), .int .i64 (i : Int)] w fun e' w' => e' = .panicked (chS (blkd st)) ∧ St w0 X (.blk g 71 RL :: .own 3 (some ga) (some ⟨ga, oa, none⟩) k cc (ocs l) :: .blk gat 3 [iv 0] :: L) w') := Lib.hid (fun w hs => (CWR.out w hs).mono (by
   rintro e w ⟨⟨h1, _⟩ | ⟨_, h1⟩, h2⟩
   ·exact absurd h1 hbl
   ·exact ⟨h1, h2⟩))
  clear BAD h0 CWR hbl
  go_wp2_with (first | (go_at_call 38; refine Calls.mono (CW2.out _ hs) ?_; clear hs; rintro e w ⟨rfl, hs⟩))
  exact ⟨rfl, trivial, HE.out _ hs⟩
 have CW2 : Hid (∀ (w : World), St w0 X (.blk g 71 RL :: .own 3 (some ga) (some ⟨ga, oa, none⟩) k cc (ocs l) :: .blk gat 3 [iv 0] :: L) w → Calls Try.prog 38 #[.pointer (some ⟨g, 0, none⟩), .int .i64 (i : Int)] w fun e' w' => e' = .returned (.tuple #[]) ∧ St w0 X (.blk g 71 RL :: .own 3 (some ga) (some ⟨ga, oa, none⟩) k cc (ocs l) :: .blk gat 3 [iv 0] :: L) w') := Lib.hid (fun w hs => (CWR.out w hs).mono (by
  rintro e w ⟨⟨_, h1⟩ | ⟨h1, _⟩, h2⟩
  ·exact ⟨h1, h2⟩
  ·exact absurd hbl h1))
 have WE2 := Lib.hid (show appendE z (lb : Int) (nn : Int) = (if (putE z i nn).2 = 0 then ((putE z i nn).1, lb + p, 0) else (z, 0, (putE z i nn).2)) by rw [WE.out]; rw [if_neg (by simpa using h0), if_neg (by simpa using hbl)])
 clear CWR h0 hbl BAD WE
 go_upto_region 5 with (first | (go_at_call 38; refine Calls.mono (CW2.out _ hs) ?_; clear hs; rintro e w ⟨rfl, hs⟩))
 obtain ⟨fi, hfi⟩ : ∃ m, m = lb + p := ⟨_, rfl⟩
 have w1 : IntKind.i64.wrap ((lb : Int) + (p : Int)) = (fi : Int) := by rw [hfi, Int.natCast_add]; exact IntWalk.i64_in _ (by omega)
 rw [← hfi] at WE2
 clear hfi
 refine Ch.region' 11 (fun wx => (Blk wx g RL 71 ∧ wx.cell? ⟨gl, 0, none⟩ = some (.int .i64 (lb : Int))) ∧ wx.cell? ⟨ga, oa + i * 3 + 1, none⟩ = some (iv p)) (fun  | _ => false) (by kernel_rfl) (by decide +kernel) (⟨⟨hs.drew.hold (.blk g 71 RL) (by simp), HB.out _ hs.drew.hold⟩, CCP.out _ hs.drew.hold⟩) ?_
 replace hs := hs.drew
 generalize w.drew = w at hs ⊢
 change Ch.CW _ _ _ _ _ [0, 1, 2, 3, 4, 5, 6, 7, 8, 9, 10] _ _
 iterate 11 ((first | (refine Ch.pure (v := ?_) (by rfl) (by rfl) (by rfl) (fun wx hS => ?_) ?_; rotate_left; (focus (go_simp; (first | done | with_reducible rfl)))) | refine Ch.pure (v := _) (by rfl) (by rfl) (by rfl) (fun wx hS => Se.xl rfl rfl (by rw [hS.1.1.cell]; exact R5.out) (by decide +kernel)) ?_ | refine Ch.pure (v := _) (by rfl) (by rfl) (by rfl) (fun wx hS => Se.xl rfl rfl hS.1.2 (by decide +kernel)) ?_ | refine Ch.pure (v := _) (by rfl) (by rfl) (by rfl) (fun wx hS => Se.xl rfl rfl hS.2 (by decide +kernel)) ?_); (try simp only [Act.put, List.setIfInBounds_toArray, List.set_cons_zero, List.set_cons_succ]))
 refine Ch.done ?_
 try simp only [List.drop_succ_cons, List.drop_zero]
 go_upto_region 6 with (fail)
 by_cases hq : (putE z i nn).2 = 0
 ·have CP2 : Hid (∀ (w : World), St w0 X (.blk g 71 RL :: .own 3 (some ga) (some ⟨ga, oa, none⟩) k cc (ocs l) :: .blk gat 3 [iv 0] :: L) w → Calls Try.prog 39 #[.pointer (some ⟨g, 0, none⟩), .int .i64 (i : Int), .int .i64 (nn : Int)] w fun e' w' => e' = .returned (.tuple #[]) ∧ St w0 X (pZ g (putE z i nn).1 (some ⟨ga, oa, none⟩) cc :: pL (some ga) (some ⟨ga, oa, none⟩) cc (putE z i nn).1 :: .blk gat 3 [.int .i64 0] :: L) w') := Lib.hid (fun w hs => (CPU.out w hs).mono (by
   rintro e w ⟨_, ⟨_, h1, h2⟩ | ⟨h1, _⟩⟩
   ·exact ⟨h1, h2⟩
   ·exact absurd hq h1))
  have HF : Hid (∀ w, St w0 X (pZ g (putE z i nn).1 (some ⟨ga, oa, none⟩) cc :: pL (some ga) (some ⟨ga, oa, none⟩) cc (putE z i nn).1 :: .blk gat 3 [.int .i64 (fi : Int)] :: L) w → AR w0 X L g cc ⟨ga, oa, none⟩ (some ga) gat (appendE z (lb : Int) (nn : Int)) (.returned (.tuple #[])) w) := Lib.hid (fun w hs => by rw [WE2.out, if_pos hq]; exact .inl ⟨rfl, rfl, hs⟩)
  clear CPU hq WE2
  go_wp2_with (first | ((with_reducible refine Se.isL (o := ⟨some 44, _, _, _, _, _⟩) ?_); (refine Se.toL rfl (Se.ld (o := ⟨some 44, _, _, _, _, _⟩) hs rfl rfl (HN.out) (by kernel_rfl) ?_))) | ((with_reducible refine Se.isL (o := ⟨none, _, _, _, _, _⟩) ?_); ((first | refine Se.toL rfl (Se.so 2 (v := .int _ _) hs rfl rfl rfl rfl rfl (by kernel_rfl) (by simp) ?_) | refine Se.toL rfl (Se.so 2 (v := .bool _) hs rfl rfl rfl rfl rfl (by kernel_rfl) (by simp) ?_) | refine Se.toL rfl (Se.so 2 (v := .slice _ _ _) hs rfl rfl rfl rfl rfl (by kernel_rfl) (by simp) ?_) | refine Se.toL rfl (Se.so 2 (v := .pointer _) hs rfl rfl rfl rfl rfl (by kernel_rfl) (by simp) ?_) | refine Se.toL rfl (Se.so 2 (v := .string _) hs rfl rfl rfl rfl rfl (by kernel_rfl) (by simp) ?_) | refine Se.toL rfl (Se.so 2 (v := .map _) hs rfl rfl rfl rfl rfl (by kernel_rfl) (by simp) ?_) | refine Se.toL rfl (Se.so 2 (v := .func _ _ _) hs rfl rfl rfl rfl rfl (by kernel_rfl) (by simp) ?_) | refine Se.toL rfl (Se.so 2 (v := .nilFunc) hs rfl rfl rfl rfl rfl (by kernel_rfl) (by simp) ?_)); clear hs; intro w hs; try simp only [List.cons_append, List.nil_append, List.set_cons_zero, List.set_cons_succ] at hs)) | (go_at_call 39; refine Calls.mono (CP2.out _ hs) ?_; clear hs; rintro e w ⟨rfl, hs⟩))
  go_end0
  first | exact HF.out _ hs | exact ⟨trivial, HF.out _ hs⟩
 ·have CP2 : Hid (∀ (w : World), St w0 X (.blk g 71 RL :: .own 3 (some ga) (some ⟨ga, oa, none⟩) k cc (ocs l) :: .blk gat 3 [iv 0] :: L) w → Calls Try.prog 39 #[.pointer (some ⟨g, 0, none⟩), .int .i64 (i : Int), .int .i64 (nn : Int)] w fun e' w' => e' = .panicked (chS (putE z i nn).2) ∧ ∃ z', St w0 X (pZ g z' (some ⟨ga, oa, none⟩) cc :: pL (some ga) (some ⟨ga, oa, none⟩) cc z' :: .blk gat 3 [iv 0] :: L) w') := Lib.hid (fun w hs => (CPU.out w hs).mono (by
   rintro e w ⟨_, ⟨h1, _⟩ | ⟨_, h1, h2⟩⟩
   ·exact absurd h1 hq
   ·exact ⟨h1, h2⟩))
  have HQ := Lib.hid hq
  have WE3 := Lib.hid (show appendE z (lb : Int) (nn : Int) = (z, 0, (putE z i nn).2) by rw [WE2.out, if_neg hq])
  clear CPU hq WE2
  go_wp2_with (first | ((with_reducible refine Se.isL (o := ⟨some 44, _, _, _, _, _⟩) ?_); (refine Se.toL rfl (Se.ld (o := ⟨some 44, _, _, _, _, _⟩) hs rfl rfl (HN.out) (by kernel_rfl) ?_))) | (go_at_call 39; refine Calls.mono (CP2.out _ hs) ?_; clear hs; rintro e w ⟨rfl, z', hs⟩))
  exact ⟨rfl, trivial, .inr (by rw [WE3.out]; exact ⟨HQ.out, rfl, z', hs⟩)⟩
end Zo
end Go.Proofs.Ythpgkkfahiglnaa


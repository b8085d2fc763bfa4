/- Layer 28: Read. No condition but Go's own limits. -/
import Derived.Test.YthpgkkfahiglnaaZoneDmg
import Derived.Test.YthpgkkfahiglnaaZoneR4
set_option maxRecDepth 100000
set_option maxHeartbeats 4000000
set_option linter.unusedSimpArgs false
set_option linter.unusedVariables false
namespace Go.Proofs.Ythpgkkfahiglnaa
open Go Go.RowKit
namespace Zo
open Se (St At Reads Cell)
open Li (Rd Blk Fr)
variable {w0 w : World} {X : List Nat} {L : List At}
attribute [local irreducible] Calls
attribute [local go_sem] eql_nil
theorem read_bad {g cc : Nat} {z : Zs} {a : Addr} {r : Option Nat} (hs : St w0 X (pZ g z (some a) cc :: pL r (some a) cc z :: L) w) (ho : OkZ z) {lba n : Int} (h : n < 1 ∨ insd z lba n = false) :
  Calls Try.prog 14 #[.pointer (some ⟨g, 0, none⟩), .int .i64 lba, .int .i64 n] w fun e w' => e = .returned (.agg (stv (readE z lba n)).toArray) ∧ St w0 X (pZ g z (some a) cc :: pL r (some a) cc z :: L) w' := by
 have CN : Hid (∀ (M : List At) (w : World), St w0 X (M ++ pZ g z (some a) cc :: pL r (some a) cc z :: L) w → Calls Try.prog 42 #[.pointer (some ⟨g, 0, none⟩)] w fun e w' => e = .returned (.bool false) ∧ St w0 X (M ++ pZ g z (some a) cc :: pL r (some a) cc z :: L) w') := Lib.hid (fun M w hs => (none_st (hs.perm List.perm_middle) (by simp)).mono (by
  rintro e w ⟨h1, h2⟩
  exact ⟨h1, h2.perm List.perm_middle.symm⟩))
 have MT : Hid (∀ (L : List At) (w : World) (k : Nat), St w0 X L w → Calls Try.prog 36 #[.bool true, .int .u8 (k : Int)] w fun e w' => e = .returned (.tuple #[]) ∧ St w0 X L w') := Lib.hid (fun L w k hs => must_t hs k)
 have MF : Hid (∀ (L : List At) (w : World), St w0 X L w → Calls Try.prog 36 #[.bool false, .int .u8 2] w fun e w' => e = .panicked (chS 2) ∧ St w0 X L w') := Lib.hid (fun L w hs => must_f hs 2 (by decide))
 have ZS : Hid ((Try.prog.info? 32).bind (fun i => i.zero.map (·.cells.toList)) = some st0) := Lib.hid zSt
 have ZL0 := Lib.hid (show st0.length = 4 from rfl)
 by_cases hn : n < 1
 ·have f1 : decide ((1 : Int) ≤ n) = false := by simp; omega
  have HB := Lib.hid (show readE z lba n = 2 by unfold readE; rw [if_pos hn])
  have KL := Lib.hid (stl_len 2)
  clear hn h ho
  go_enter_defers Try.func14, Try.ntmps14
  go_wp2_with (first | ((with_reducible refine Se.isL (o := ⟨some 6, _, _, _, _, _⟩) ?_); (refine Se.toL rfl (Se.al (o := ⟨some 6, _, _, _, _, _⟩) hs rfl (ZS.out) ?_); clear hs; rintro w g6 - hs)) | (go_at_call 42; refine Calls.mono (CN.out [_] _ hs) ?_; clear hs; rintro e w ⟨rfl, hs⟩) | (go_at_call 36; refine Calls.mono (MT.out _ _ 6 hs) ?_; clear hs; rintro e w ⟨rfl, hs⟩) | (go_at_call 36; refine Calls.mono (MF.out _ _ hs) ?_; clear hs; rintro e w ⟨rfl, hs⟩))
  refine leaves_cons (f := 41) (args := #[.pointer (some ⟨g6, 0, none⟩)]) (by simp) (by simp [go_sem]) ?_
  refine (caught_panic 2 g6 rfl hs).mono ?_
  rintro e' u' w'' ⟨rfl, rfl, hs⟩
  refine ⟨_, run_results_row hs Try.results14 rfl (Reads.blk 0 rfl) (by kernel_rfl) (by rw [KL.out] <;> kernel_rfl), ?_⟩
  rw [HB.out]
  exact ⟨rfl, hs.drop⟩
 have hin : insd z lba n = false := by rcases h with h | h; exact absurd h hn; exact h
 have f1 : decide ((1 : Int) ≤ n) = true := by simp; omega
 have HB := Lib.hid (show readE z lba n = 128 by unfold readE; rw [if_neg hn, if_pos hin])
 have KL := Lib.hid (stl_len 128)
 have CI : Hid (∀ (M : List At) (w : World), St w0 X (M ++ pZ g z (some a) cc :: pL r (some a) cc z :: L) w → Calls Try.prog 37 #[.pointer (some ⟨g, 0, none⟩), .int .i64 lba, .int .i64 n] w fun e w' => e = .panicked (chS 128) ∧ St w0 X (M ++ pZ g z (some a) cc :: pL r (some a) cc z :: L) w') := Lib.hid (fun M w hs => (inside_bad (hs.perm List.perm_middle) ho hin).mono (by
  rintro e w ⟨h1, h2⟩
  exact ⟨h1, h2.perm List.perm_middle.symm⟩))
 clear hn h ho hin MF
 go_enter_defers Try.func14, Try.ntmps14
 go_wp2_with (first | ((with_reducible refine Se.isL (o := ⟨some 6, _, _, _, _, _⟩) ?_); (refine Se.toL rfl (Se.al (o := ⟨some 6, _, _, _, _, _⟩) hs rfl (ZS.out) ?_); clear hs; rintro w g6 - hs)) | (go_at_call 42; refine Calls.mono (CN.out [_] _ hs) ?_; clear hs; rintro e w ⟨rfl, hs⟩) | (go_at_call 36; refine Calls.mono (MT.out _ _ 6 hs) ?_; clear hs; rintro e w ⟨rfl, hs⟩) | (go_at_call 36; refine Calls.mono (MT.out _ _ 2 hs) ?_; clear hs; rintro e w ⟨rfl, hs⟩) | (go_at_call 37; refine Calls.mono (CI.out [_] _ hs) ?_; clear hs; rintro e w ⟨rfl, hs⟩))
 refine leaves_cons (f := 41) (args := #[.pointer (some ⟨g6, 0, none⟩)]) (by simp) (by simp [go_sem]) ?_
 refine (caught_panic 128 g6 rfl hs).mono ?_
 rintro e' u' w'' ⟨rfl, rfl, hs⟩
 refine ⟨_, run_results_row hs Try.results14 rfl (Reads.blk 0 rfl) (by kernel_rfl) (by rw [KL.out] <;> kernel_rfl), ?_⟩
 rw [HB.out]
 exact ⟨rfl, hs.drop⟩
theorem read_ok {g cc : Nat} {z : Zs} {a : Addr} {r : Option Nat} (hs : St w0 X (pZ g z (some a) cc :: pL r (some a) cc z :: L) w) (ho : OkZ z) {lba : Int} {nn : Nat} (hn1 : 1 ≤ nn) (hin : insd z lba (nn : Int) = true) :
  Calls Try.prog 14 #[.pointer (some ⟨g, 0, none⟩), .int .i64 lba, .int .i64 (nn : Int)] w fun e w' => e = .returned (.agg (stv (readE z lba (nn : Int))).toArray) ∧ St w0 X (pZ g z (some a) cc :: pL r (some a) cc z :: L) w' := by
 obtain ⟨ga, oa, ha, hr⟩ := hs.own_at 1 rfl (by have := ho.1; have := ho.2.1; omega)
 obtain rfl : a = ⟨ga, oa, none⟩ := by simpa using ha
 subst hr
 clear ha
 have hkc : z.l.length ≤ cc := (hs.hold _ (List.mem_cons_of_mem _ List.mem_cons_self)).2.1
 have CN : Hid (∀ (M : List At) (w : World), St w0 X (M ++ pZ g z (some ⟨ga, oa, none⟩) cc :: pL (some ga) (some ⟨ga, oa, none⟩) cc z :: L) w → Calls Try.prog 42 #[.pointer (some ⟨g, 0, none⟩)] w fun e w' => e = .returned (.bool false) ∧ St w0 X (M ++ pZ g z (some ⟨ga, oa, none⟩) cc :: pL (some ga) (some ⟨ga, oa, none⟩) cc z :: L) w') := Lib.hid (fun M w hs => (none_st (hs.perm List.perm_middle) (by simp)).mono (by
  rintro e w ⟨h1, h2⟩
  exact ⟨h1, h2.perm List.perm_middle.symm⟩))
 have CI : Hid (∀ (M : List At) (w : World), St w0 X (M ++ pZ g z (some ⟨ga, oa, none⟩) cc :: pL (some ga) (some ⟨ga, oa, none⟩) cc z :: L) w → Calls Try.prog 37 #[.pointer (some ⟨g, 0, none⟩), .int .i64 lba, .int .i64 (nn : Int)] w fun e w' => e = .returned (.tuple #[]) ∧ St w0 X (M ++ pZ g z (some ⟨ga, oa, none⟩) cc :: pL (some ga) (some ⟨ga, oa, none⟩) cc z :: L) w') := Lib.hid (fun M w hs => (inside_ok (hs.perm List.perm_middle) ho hin).mono (by
  rintro e w ⟨h1, h2⟩
  exact ⟨h1, h2.perm List.perm_middle.symm⟩))
 have MT : Hid (∀ (L : List At) (w : World) (k : Nat), St w0 X L w → Calls Try.prog 36 #[.bool true, .int .u8 (k : Int)] w fun e w' => e = .returned (.tuple #[]) ∧ St w0 X L w') := Lib.hid (fun L w k hs => must_t hs k)
 have MF : Hid (∀ (L : List At) (w : World), St w0 X L w → Calls Try.prog 36 #[.bool false, .int .u8 187] w fun e w' => e = .panicked (chS 187) ∧ St w0 X L w') := Lib.hid (fun L w hs => must_f hs 187 (by decide))
 have ZS : Hid ((Try.prog.info? 32).bind (fun i => i.zero.map (·.cells.toList)) = some st0) := Lib.hid zSt
 have ZL0 := Lib.hid (show st0.length = 4 from rfl)
 have ZO0 := Lib.hid (show ∀ v ∈ st0, v.oneCell' = true by simp [st0, Value.oneCell'])
 obtain ⟨RL, hRL⟩ : ∃ RL, RL = zcl z (some ⟨ga, oa, none⟩) cc := ⟨_, rfl⟩
 obtain ⟨k, hk⟩ : ∃ n, n = z.l.length := ⟨_, rfl⟩
 have hk1 : k ≤ 4096 := by rw [hk, ho.1]; exact ho.2.2.1
 obtain ⟨sz, hsz⟩ : ∃ n, n = z.c.sz := ⟨_, rfl⟩
 have hsz1 : 1 ≤ sz := by rw [hsz]; exact ho.2.2.2.1
 have hsz2 : sz ≤ 65536 := by rw [hsz]; exact ho.2.2.2.2.1
 have R5 := Lib.hid (show RL[5]? = some (.slice (some ⟨ga, oa, none⟩) k cc) by rw [hRL, hk]; rfl)
 have R1 := Lib.hid (show RL[1]? = some (iv sz) by rw [hRL, hsz]; rfl)
 obtain ⟨lb, rfl⟩ : ∃ m : Nat, lba = (m : Int) := ⟨lba.toNat, by have := insd_pos hin; omega⟩
 obtain ⟨f, hf⟩ : ∃ i, i = lb / sz := ⟨_, rfl⟩
 have hii := insd_i ho (m := nn) hin hn1
 rw [← hsz, ← hf, ← hk] at hii
 obtain ⟨hfk, hlb, -⟩ := hii
 have hall : lb + nn ≤ z.c.n * sz ∧ z.c.n * sz ≤ 4096 * 65536 := by
  have h := hin
  unfold insd at h
  simp only [decide_eq_true_eq] at h
  rw [← hsz] at h
  exact ⟨by omega, Nat.mul_le_mul ho.2.2.1 hsz2⟩
 obtain ⟨lm, hlm⟩ : ∃ m, m = lb + nn - 1 := ⟨_, rfl⟩
 obtain ⟨la, hla⟩ : ∃ m, m = lm / sz := ⟨_, rfl⟩
 obtain ⟨e, he⟩ : ∃ m, m = la + 1 := ⟨_, rfl⟩
 have hlak : la < k := by
  rw [hla, hk, ho.1]
  exact (Nat.div_lt_iff_lt_mul hsz1).2 (by omega)
 have hfe : f ≤ la := by rw [hf, hla]; exact Nat.div_le_div_right (by omega)
 obtain ⟨l, hl⟩ : ∃ l, l = z.l := ⟨_, rfl⟩
 have HW : Hid (readE z (lb : Int) (nn : Int) = if offN l f e = true then 187 else 0) := Lib.hid (by
  unfold readE
  rw [if_neg (by omega), if_neg (by rw [hin]; decide), Int.toNat_natCast, Int.toNat_natCast, ← hsz, ← hf, ← hlm, ← hla, ← he, ← hl])
 have HKL := Lib.hid (show l.length = k by rw [hl, hk])
 have e1 : pZ g z (some ⟨ga, oa, none⟩) cc = .blk g 71 RL := by rw [hRL]
 have e2 : pL (some ga) (some ⟨ga, oa, none⟩) cc z = .own 3 (some ga) (some ⟨ga, oa, none⟩) k cc (ocs l) := by unfold pL; rw [← hk, ← hl]
 have FIN : Hid (∀ w, St w0 X (.blk g 71 RL :: .own 3 (some ga) (some ⟨ga, oa, none⟩) k cc (ocs l) :: L) w → St w0 X (pZ g z (some ⟨ga, oa, none⟩) cc :: pL (some ga) (some ⟨ga, oa, none⟩) cc z :: L) w) := Lib.hid (fun w hs => by rw [e1, e2]; exact hs)
 rw [e1, e2] at hs CN CI
 have d1 : ((lb : Int)).tdiv (sz : Int) = (f : Int) := by rw [Int.tdiv_eq_ediv_of_nonneg (by omega), hf]; rfl
 have d2 : ((lm : Int)).tdiv (sz : Int) = (la : Int) := by rw [Int.tdiv_eq_ediv_of_nonneg (by omega), hla]; rfl
 have d0 : ¬ ((sz : Int) = 0) := by omega
 have d3 : ((sz : Int) == 0) = false := by simp; omega
 have d4 : ¬ sz = 0 := by omega
 have w1 : IntKind.i64.wrap ((lb : Int) + (nn : Int)) = (lb : Int) + (nn : Int) := IntWalk.i64_in _ (by omega)
 have w2 : IntKind.i64.wrap ((lb : Int) + (nn : Int) - 1) = (lm : Int) := by rw [show (lb : Int) + (nn : Int) - 1 = (lm : Int) by omega]; exact IntWalk.i64_in _ (by omega)
 have hkc' : k ≤ cc := by rw [hk]; exact hkc
 obtain ⟨m, hm⟩ : ∃ m, m = e - f := ⟨_, rfl⟩
 have hm0 : f + m = e := by omega
 have f1 : decide ((1 : Int) ≤ (nn : Int)) = true := by simp; omega
 clear hkc hRL hk hsz hf hall hlm hla hl e1 e2 ho hin
 go_enter_defers Try.func14, Try.ntmps14
 go_upto_region 5 with (first | ((with_reducible refine Se.isL (o := ⟨some 6, _, _, _, _, _⟩) ?_); (refine Se.toL rfl (Se.al (o := ⟨some 6, _, _, _, _, _⟩) hs rfl (ZS.out) ?_); clear hs; rintro w g6 - hs)) | (go_at_call 42; refine Calls.mono (CN.out [_] _ hs) ?_; clear hs; rintro e w ⟨rfl, hs⟩) | (go_at_call 36; refine Calls.mono (MT.out _ _ 6 hs) ?_; clear hs; rintro e w ⟨rfl, hs⟩) | (go_at_call 36; refine Calls.mono (MT.out _ _ 2 hs) ?_; clear hs; rintro e w ⟨rfl, hs⟩) | (go_at_call 37; refine Calls.mono (CI.out [_] _ hs) ?_; clear hs; rintro e w ⟨rfl, hs⟩))
 clear CN CI f1
 refine Ch.region' 19 (fun wx => Blk wx g RL 71) (fun  | _ => false) (by kernel_rfl) (by decide +kernel) (hs.drew.hold (.blk g 71 RL) (by simp)) ?_
 replace hs := hs.drew
 generalize w.drew = w at hs ⊢
 change Ch.CW _ _ _ _ _ [0, 1, 2, 3, 4, 5, 6, 7, 8, 9, 10, 11, 12, 13, 14, 15, 16, 17, 18] _ _
 iterate 19 ((first | (refine Ch.pure (v := ?_) (by rfl) (by rfl) (by rfl) (fun wx hS => ?_) ?_; rotate_left; (focus (go_simp; (first | done | with_reducible rfl)))) | refine Ch.pure (v := _) (by rfl) (by rfl) (by rfl) (fun wx hS => Se.xl rfl rfl (by rw [hS.cell]; exact R1.out) (by decide +kernel)) ?_); (try simp only [Act.put, List.setIfInBounds_toArray, List.set_cons_zero, List.set_cons_succ]))
 refine Ch.done ?_
 try simp only [List.drop_succ_cons, List.drop_zero]
 clear d1 d2 d0 d3 d4 w1 w2
 have b1 : ((f : Int)) ≤ (la : Int) + 1 := by omega
 have b2 : (la : Int) + 1 ≤ (cc : Int) := by omega
 have b3 : (la : Int) + 1 - (f : Int) = (m : Int) := by omega
 have b4 : IntKind.i64.wrap ((la : Int) + 1) = (la : Int) + 1 := IntWalk.i64_in _ (by omega)
 go_wp2_with (first | ((with_reducible refine Se.isL (o := ⟨some 42, _, _, _, _, _⟩) ?_); (refine Se.toL rfl (Se.ld (o := ⟨some 42, _, _, _, _, _⟩) hs rfl rfl (Cell.blk 1 rfl R5.out) (by kernel_rfl) ?_))))
 rw [show la + 1 - f = m by omega]
 simp only [List.cons_append, List.nil_append] at hs
 clear b1 b2 b3 b4
 have hmk : m ≤ 4096 := by omega
 have HM0 := Lib.hid hm0
 have HEK := Lib.hid (show e ≤ k by omega)
 clear hm hm0 he hlak hfe hlb
 go_loopg [50] m (fun gh s50 wr => ∃ j : Nat, gh = m - j ∧ j ≤ m ∧ s50 = .int .i64 (j : Int) ∧ Hid (offN l f (f + j) = false) ∧ St w0 X (.blk g6 32 st0 :: .blk g 71 RL :: .own 3 (some ga) (some ⟨ga, oa, none⟩) k cc (ocs l) :: L) wr)
 case atStart => exact ⟨0, rfl, Nat.zero_le _, rfl, Lib.hid (offN_self l f), hs⟩
 case round =>
  clear hs
  rename World => w
  obtain ⟨j, rfl, hj, rfl, HO, hs⟩ := hrel
  by_cases hlt : j < m
  ·have hlt' : (j : Int) < (m : Int) := by omega
   have hjl : f + j < l.length := by have := HKL.out; have := HM0.out; have := HEK.out; omega
   obtain ⟨x, hx⟩ : ∃ x, x = l.getD (f + j) dz := ⟨_, rfl⟩
   obtain ⟨st, hst⟩ : ∃ s, s = x.st := ⟨_, rfl⟩
   obtain ⟨O, hO⟩ : ∃ O, O = oc x := ⟨_, rfl⟩
   have HRX : Hid (∀ (M : List At), Reads (M ++ .own 3 (some ga) (some ⟨ga, oa, none⟩) k cc (ocs l) :: L) (some ⟨ga, oa + f * 3 + j * 3, none⟩) O) := Lib.hid (fun M => by
    have h := row_at (L := .own 3 (some ga) (some ⟨ga, oa, none⟩) k cc (ocs l) :: L) (Reads.own 0 rfl) hjl
    rw [← getD_get hjl, ← hx, Nat.add_mul, ← Nat.add_assoc, ← hO] at h
    exact h.app M)
   have OL := Lib.hid (show O.length = 3 by rw [hO]; rfl)
   have OO := Lib.hid (show ∀ v ∈ O, v.oneCell' = true by rw [hO]; exact oc_one _)
   have O0 := Lib.hid (show O[0]? = some (iv st) by rw [hO, hst]; rfl)
   have HS := Lib.hid (show offN l f (f + j + 1) = (st == 15) by rw [offN_step l (Nat.le_add_right f j) hjl, HO.out, ← hx, ← hst, Bool.false_or])
   clear hx hst hO hjl
   by_cases h15 : st = 15
   ·have f4 : ((st : Int) != 15) = false := by simp; omega
    have HB := Lib.hid (show readE z (lb : Int) (nn : Int) = 187 by rw [HW.out, if_pos (offN_mono l (by rw [HS.out, h15]; rfl) (show f + j + 1 ≤ e by have := HM0.out; omega))])
    have KL := Lib.hid (stl_len 187)
    clear h15 HW HS HO
    go_wp2_with (first | ((with_reducible refine Se.isL (o := ⟨some 53, _, _, _, _, _⟩) ?_); (refine Se.toL rfl (Se.ldw (o := ⟨some 53, _, _, _, _, _⟩) hs rfl rfl ((HRX.out [_, _])) ((by rw [OL.out]; kernel_rfl)) (by kernel_rfl) ?_))) | ((with_reducible refine Se.isL (o := ⟨some 10, _, _, _, _, _⟩) ?_); (refine Se.toL rfl (Se.al (o := ⟨some 10, _, _, _, _, _⟩) hs rfl (zOne) ?_); clear hs; rintro w g10 - hs)) | ((with_reducible refine Se.isL (o := ⟨none, Op.store 80 _ _, _, _, _, _⟩) ?_); (refine Se.toL rfl (Se.sow 0 hs rfl rfl rfl rfl (OO.out) ((by rw [OL.out]; kernel_rfl)) ((by rw [OL.out]; rfl)) ?_); clear hs; intro w hs; try simp only [List.cons_append, List.nil_append, List.set_cons_zero] at hs)) | ((with_reducible refine Se.isL (o := ⟨some 55, _, _, _, _, _⟩) ?_); (refine Se.toL rfl (Se.ld (o := ⟨some 55, _, _, _, _, _⟩) hs rfl rfl (Cell.blk 0 rfl O0.out) (by kernel_rfl) ?_))) | (go_at_call 36; refine Calls.mono (MF.out _ _ hs) ?_; clear hs; rintro e w ⟨rfl, hs⟩))
    refine leaves_cons (f := 41) (args := #[.pointer (some ⟨g6, 0, none⟩)]) (by simp) (by simp [go_sem]) ?_
    refine (caught_panic 187 g6 rfl hs.u11).mono ?_
    rintro e' u' w'' ⟨rfl, rfl, hs⟩
    refine ⟨_, run_results_row hs Try.results14 rfl (Reads.blk 0 rfl) (by kernel_rfl) (by rw [KL.out] <;> kernel_rfl), ?_⟩
    rw [HB.out]
    exact ⟨rfl, FIN.out _ hs.drop.drop⟩
   ·have f4 : ((st : Int) != 15) = true := by simp; omega
    have HS2 := Lib.hid (show offN l f (f + j + 1) = false by rw [HS.out]; simpa using h15)
    clear h15 HS HO
    go_wp2_with (first | ((with_reducible refine Se.isL (o := ⟨some 53, _, _, _, _, _⟩) ?_); (refine Se.toL rfl (Se.ldw (o := ⟨some 53, _, _, _, _, _⟩) hs rfl rfl ((HRX.out [_, _])) ((by rw [OL.out]; kernel_rfl)) (by kernel_rfl) ?_))) | ((with_reducible refine Se.isL (o := ⟨some 10, _, _, _, _, _⟩) ?_); (refine Se.toL rfl (Se.al (o := ⟨some 10, _, _, _, _, _⟩) hs rfl (zOne) ?_); clear hs; rintro w g10 - hs)) | ((with_reducible refine Se.isL (o := ⟨none, Op.store 80 _ _, _, _, _, _⟩) ?_); (refine Se.toL rfl (Se.sow 0 hs rfl rfl rfl rfl (OO.out) ((by rw [OL.out]; kernel_rfl)) ((by rw [OL.out]; rfl)) ?_); clear hs; intro w hs; try simp only [List.cons_append, List.nil_append, List.set_cons_zero] at hs)) | ((with_reducible refine Se.isL (o := ⟨some 55, _, _, _, _, _⟩) ?_); (refine Se.toL rfl (Se.ld (o := ⟨some 55, _, _, _, _, _⟩) hs rfl rfl (Cell.blk 0 rfl O0.out) (by kernel_rfl) ?_))) | (go_at_call 36; refine Calls.mono (MT.out _ _ 187 hs) ?_; clear hs; rintro e w ⟨rfl, hs⟩))
    go_roundg (m - (j + 1))
    case measure => omega
    case rel => exact ⟨j + 1, rfl, by omega, by go_num, HS2, hs.drop⟩
  ·obtain rfl : j = m := by omega
   have HB := Lib.hid (show readE z (lb : Int) (nn : Int) = 0 by rw [HW.out, if_neg (by rw [← HM0.out, HO.out]; decide)])
   clear HO HW
   go_wp2_with (first | ((with_reducible refine Se.isL (o := ⟨some 59, _, _, _, _, _⟩) ?_); (refine Se.toL rfl (Se.ldw (o := ⟨some 59, _, _, _, _, _⟩) hs rfl rfl ((Reads.blk 0 rfl)) ((by rw [ZL0.out]; kernel_rfl)) (by kernel_rfl) ?_))) | ((with_reducible refine Se.isL (o := ⟨none, Op.store 32 _ _, _, _, _, _⟩) ?_); (refine Se.toL rfl (Se.sow 0 hs rfl rfl rfl rfl (ZO0.out) ((by rw [ZL0.out]; kernel_rfl)) (rfl) ?_); clear hs; intro w hs; try simp only [List.cons_append, List.nil_append, List.set_cons_zero] at hs)))
   refine leaves_cons (f := 41) (args := #[.pointer (some ⟨g6, 0, none⟩)]) (by simp) (by simp [go_sem]) ?_
   refine (caught_idle g6 hs).mono ?_
   rintro e u' w'' ⟨rfl, rfl, hs⟩
   refine ⟨_, run_results_row hs Try.results14 rfl (Reads.blk 0 rfl) (by kernel_rfl) (by rw [ZL0.out] <;> kernel_rfl), ?_⟩
   rw [HB.out]
   exact ⟨rfl, FIN.out _ hs.drop⟩
theorem read_st {g cc : Nat} {z : Zs} {a : Addr} {r : Option Nat} (hs : St w0 X (pZ g z (some a) cc :: pL r (some a) cc z :: L) w) (ho : OkZ z) (lba n : Int) :
  Calls Try.prog 14 #[.pointer (some ⟨g, 0, none⟩), .int .i64 lba, .int .i64 n] w fun e w' => e = .returned (.agg (stv (readE z lba n)).toArray) ∧ St w0 X (pZ g z (some a) cc :: pL r (some a) cc z :: L) w' := by
 by_cases hn : n < 1
 ·exact read_bad hs ho (.inl hn)
 cases hin : insd z lba n with
 | false => exact read_bad hs ho (.inr hin)
 | true =>
  obtain ⟨nn, rfl⟩ : ∃ m : Nat, n = (m : Int) := ⟨n.toNat, by omega⟩
  exact read_ok hs ho (by omega) hin
end Zo
end Go.Proofs.Ythpgkkfahiglnaa


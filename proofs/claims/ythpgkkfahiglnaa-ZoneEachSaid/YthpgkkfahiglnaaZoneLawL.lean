/- Layer 28's laws: act, part L. No condition but Go's own limits. Printed by wip/gen_zonelaw4.py. -/
import Derived.Test.YthpgkkfahiglnaaZoneLaw4
set_option maxRecDepth 100000
set_option maxHeartbeats 4000000
set_option linter.unusedSimpArgs false
set_option linter.unusedVariables false
namespace Go.Proofs.Ythpgkkfahiglnaa
open Go Go.RowKit
namespace Zo
open Se (St At Reads Cell)
open Li (Rd Blk Fr)
variable {w0 w : World} {X : List Nat} {L : List At}
attribute [local irreducible] Calls
attribute [local go_sem] Gd.mv_true Gd.pk_or Gd.pk_and Gd.pk_true Gd.pk_false
theorem act_manageAll {g cc : Nat} {z : Zs} {a : Addr} {r : Option Nat} {A : Option Addr} {ZI : List Value} (hs : St w0 X (pZ g z (some a) cc :: pL r (some a) cc z :: .rd A (ocs z.l) :: L) w) (ho : OkZ z) (hw : z.w < 1099511627776) (hz : RZ z A ZI) {wh zi off n : Int} (hn : n ≤ 9223372036854775807) (hwh : wh = 10) :
  Calls Try.prog 22 #[.pointer (some ⟨g, 0, none⟩), .agg ZI.toArray, .agg #[.int .i64 wh, .int .i64 zi, .int .i64 off, .int .i64 n]] w fun e w' => True ∧ ActR w0 X L z e w' := by
 obtain ⟨k, hk⟩ : ∃ k, k = z.l.length := ⟨_, rfl⟩
 have hk1 : k ≤ 4096 := by rw [hk, ho.1]; exact ho.2.2.1
 have hk0 : 1 ≤ k := by rw [hk, ho.1]; exact ho.2.1
 obtain ⟨sz, hsz⟩ : ∃ s, s = z.c.sz := ⟨_, rfl⟩
 have hsz2 : sz ≤ 65536 := by rw [hsz]; exact ho.2.2.2.2.1
 have ZLn := Lib.hid hz.len
 have ZOn := Lib.hid hz.one
 obtain ⟨ga, oa, rfl, _, _⟩ := (hs.hold (.rd A (ocs z.l)) (by simp)).cells (ocs_ne (by rw [← hk]; exact hk0))
 have Z5 : ∃ cc, ZI[5]? = some (.slice (some ⟨ga, oa, none⟩) k cc) := by obtain ⟨c, hc⟩ := hz; exact ⟨c, by rw [hc, hk]; rfl⟩
 obtain ⟨c5, Z5⟩ := Z5
 have Z5 := Lib.hid Z5
 have Z1 := Lib.hid (show ZI[1]? = some (iv sz) by obtain ⟨c, hc⟩ := hz; rw [hc, hsz]; rfl)
 have HK := Lib.hid hk
 have HO := Lib.hid ho
 have HW := Lib.hid hw
 have HZ := Lib.hid hz
 have HN := Lib.hid hn
 obtain ⟨RZ0, hRZ0⟩ : ∃ R, R = zcl { c := ⟨0, 0, 0, 0, 0⟩, l := [] } none 0 := ⟨_, rfl⟩
 have ZL0 := Lib.hid (show RZ0.length = 7 by rw [hRZ0]; rfl)
 have zRz' := Lib.hid zRz
 rw [← hRZ0] at zRz'
 have HWH := Lib.hid hwh
 clear ho hw hz hn hk hsz hRZ0 hwh
 go_enter Try.func22, Try.ntmps22
 go_upto_region 2 with (first | ((with_reducible refine Se.isL (o := ⟨some 7, _, _, _, _, _⟩) ?_); (refine Se.toL rfl (Se.al (o := ⟨some 7, _, _, _, _, _⟩) hs rfl (zRz'.out) ?_); clear hs; rintro w g7 - hs)) | ((with_reducible refine Se.isL (o := ⟨some 22, _, _, _, _, _⟩) ?_); (refine Se.toL rfl (Se.ld (o := ⟨some 22, _, _, _, _, _⟩) hs rfl rfl (Cell.blk 1 rfl rfl) (by kernel_rfl) ?_))) | ((first | with_reducible refine Se.ab hs ?_ | with_reducible refine Se.abc hs ?_); clear hs; (first | ((fail_if_success (have _q := g4)); generalize w.heap.size = g4; intro w hs) | (generalize w.heap.size = g5; intro w hs))))
 refine Gd.plain 11 (fun wx => Blk wx g5 [.int .i64 wh, .int .i64 zi, .int .i64 off, .int .i64 n] 57 ∧ Blk wx g4 ZI 43) (fun  | _ => false) rfl (⟨hs.hold (.blk g5 57 [.int .i64 wh, .int .i64 zi, .int .i64 off, .int .i64 n]) (by simp), hs.hold (.blk g4 43 ZI) (by simp)⟩) ?_
 change Ch.CW _ _ _ _ _ [0, 1, 2, 3, 4, 5, 6, 7, 8, 9, 10] _ _
 iterate 11 (refine Gd.look (by rfl) ?_; (first | ((with_reducible refine Gd.isLoad0 ?_); first | (refine Gd.qp (v := _) (by rfl) (by rfl) (fun wx hS => Se.xl (by rfl) (by rfl) (by rw [(hS.1).cell]; rfl) (by decide +kernel)) ?_) | (refine Gd.qp (v := _) (by rfl) (by rfl) (fun wx hS => Se.xl (by rfl) (by rfl) (by rw [(hS.2).cell]; first | exact Z5.out) (by decide +kernel)) ?_)) | ((with_reducible refine Gd.isLoad1 ?_); first | (refine Gd.gp (v := ?_) (by rfl) (by first | exact Gd.want_t rfl rfl rfl | exact Gd.want_f rfl rfl rfl | exact Gd.want_mt rfl rfl rfl | exact Gd.want_mf rfl rfl rfl) ?_ ?_; rotate_left; (focus ((intro hb; have hb0 := hb; (try simp only [Bool.and_eq_true] at hb)); intro wx hS; exact Se.xl (by rfl) (by exact Gd.mv_of hb0) (by rw [(hS.1).cell]; rfl) (by decide +kernel)))) | (refine Gd.gp (v := ?_) (by rfl) (by first | exact Gd.want_t rfl rfl rfl | exact Gd.want_f rfl rfl rfl | exact Gd.want_mt rfl rfl rfl | exact Gd.want_mf rfl rfl rfl) ?_ ?_; rotate_left; (focus ((intro hb; have hb0 := hb; (try simp only [Bool.and_eq_true] at hb)); intro wx hS; exact Se.xl (by rfl) (by rfl) (by rw [(hS.1).cell]; rfl) (by decide +kernel)))) | (refine Gd.gp (v := ?_) (by rfl) (by first | exact Gd.want_t rfl rfl rfl | exact Gd.want_f rfl rfl rfl | exact Gd.want_mt rfl rfl rfl | exact Gd.want_mf rfl rfl rfl) ?_ ?_; rotate_left; (focus ((intro hb; have hb0 := hb; (try simp only [Bool.and_eq_true] at hb)); intro wx hS; exact Se.xl (by rfl) (by exact Gd.mv_of hb0) (by rw [(hS.2).cell]; first | exact Z5.out) (by decide +kernel)))) | (refine Gd.gp (v := ?_) (by rfl) (by first | exact Gd.want_t rfl rfl rfl | exact Gd.want_f rfl rfl rfl | exact Gd.want_mt rfl rfl rfl | exact Gd.want_mf rfl rfl rfl) ?_ ?_; rotate_left; (focus ((intro hb; have hb0 := hb; (try simp only [Bool.and_eq_true] at hb)); intro wx hS; exact Se.xl (by rfl) (by rfl) (by rw [(hS.2).cell]; first | exact Z5.out) (by decide +kernel))))) | ((with_reducible refine Gd.isPick0 ?_); refine Gd.qpick (b := _) (v := ?_) (e := ?_) (by rfl) (by rfl) (by rfl) (by rfl) ?_ ?_ ?_; rotate_left 2; (focus (go_simp; (first | done | with_reducible rfl))); (focus (with_reducible rfl)); (intro _ _)) | ((with_reducible refine Gd.isPick1 ?_); refine Gd.gpick (b := ?_) (v := ?_) (e := ?_) (by rfl) (by rfl) (by first | exact Gd.want_t rfl rfl rfl | exact Gd.want_f rfl rfl rfl | exact Gd.want_mt rfl rfl rfl | exact Gd.want_mf rfl rfl rfl) ?_ ?_ ?_; rotate_left 3; (focus ((intro hb; have hb0 := hb; (try simp only [Bool.and_eq_true] at hb)); refine ⟨?_, ?_⟩ <;> (go_simp; (first | done | with_reducible rfl)))); (focus (with_reducible rfl)); (intro _ _)) | ((with_reducible refine Gd.isBin0 (ty := 4) ?_); refine Gd.qb (v := ?_) (e := ?_) (by rfl) (by rfl) (fun wx hS => ?_) ?_ ?_; rotate_left 2; (focus (go_simp; (first | done | with_reducible rfl))); (focus (with_reducible rfl)); (intro _ _)) | ((with_reducible refine Gd.isUn0 (ty := 4) ?_); refine Gd.qb (v := ?_) (e := ?_) (by rfl) (by rfl) (fun wx hS => ?_) ?_ ?_; rotate_left 2; (focus (go_simp; (first | done | with_reducible rfl))); (focus (with_reducible rfl)); (intro _ _)) | ((with_reducible refine Gd.isBin1 (ty := 4) ?_); refine Gd.gb (v := ?_) (e := ?_) (by rfl) (by first | exact Gd.want_t rfl rfl rfl | exact Gd.want_f rfl rfl rfl | exact Gd.want_mt rfl rfl rfl | exact Gd.want_mf rfl rfl rfl) ?_ ?_ ?_; rotate_left 2; (focus ((intro hb; have hb0 := hb; (try simp only [Bool.and_eq_true] at hb)); intro wx hS; go_simp; (first | done | with_reducible rfl))); (focus (with_reducible rfl)); (intro _ _)) | ((with_reducible refine Gd.isUn1 (ty := 4) ?_); refine Gd.gb (v := ?_) (e := ?_) (by rfl) (by first | exact Gd.want_t rfl rfl rfl | exact Gd.want_f rfl rfl rfl | exact Gd.want_mt rfl rfl rfl | exact Gd.want_mf rfl rfl rfl) ?_ ?_ ?_; rotate_left 2; (focus ((intro hb; have hb0 := hb; (try simp only [Bool.and_eq_true] at hb)); intro wx hS; go_simp; (first | done | with_reducible rfl))); (focus (with_reducible rfl)); (intro _ _)) | ((with_reducible refine Gd.is0 ?_); refine Gd.qp (v := ?_) (by rfl) (by rfl) (fun wx hS => ?_) ?_; rotate_left; (focus (go_simp; (first | done | with_reducible rfl)))) | ((with_reducible refine Gd.is1 ?_); refine Gd.gp (v := ?_) (by rfl) (by first | exact Gd.want_t rfl rfl rfl | exact Gd.want_f rfl rfl rfl | exact Gd.want_mt rfl rfl rfl | exact Gd.want_mf rfl rfl rfl) ?_ ?_; rotate_left; (focus ((intro hb; have hb0 := hb; (try simp only [Bool.and_eq_true] at hb)); intro wx hS; go_simp; (first | done | with_reducible rfl))))); (try simp only [Act.put, List.setIfInBounds_toArray, List.set_cons_zero, List.set_cons_succ]))
 refine Ch.done ?_
 rename_i cb hcb
 have hb : (decide (0 ≤ zi) && decide (zi < (k : Int))) = cb := and2c hcb (by assumption) (by assumption)
 have HB := Lib.hid hb
 clear hb hcb
 go_upto_if 33 with (fail)
 go_cut [9] (fun s9 wx => ∃ lba : Int, s9 = .int .i64 lba ∧ St w0 X (.blk g7 43 RZ0 :: .blk g5 57 [.int .i64 wh, .int .i64 zi, .int .i64 off, .int .i64 n] :: .blk g4 43 ZI :: pZ g z (some a) cc :: pL r (some a) cc z :: .rd (some ⟨ga, oa, none⟩) (ocs z.l) :: L) wx)
 case first =>
  cases cb with
  | false =>
   go_wp2_with fail
   go_meet
   exact ⟨off, rfl, hs⟩
  | true =>
   have hzi := HB.out
   simp only [Bool.and_eq_true, decide_eq_true_eq] at hzi
   obtain ⟨zn, rfl⟩ : ∃ m : Nat, zi = (m : Int) := ⟨zi.toNat, by omega⟩
   have hzl : zn < z.l.length := by have := HK.out; omega
   obtain ⟨p, hp⟩ : ∃ p, p = (z.l.getD zn dz).p := ⟨_, rfl⟩
   have C1 : Hid (∀ M : List At, Cell (M ++ .rd (some ⟨ga, oa, none⟩) (ocs z.l) :: L) ga (oa + zn * 3 + 1) (iv p)) := Lib.hid (fun M => capp M (rcell (Reads.rd 0 rfl) hzl 1 (by decide) (by rw [hp]; rfl)))
   have hzk : (zn : Int) < (k : Int) := hzi.2
   clear hzi HB hzl hp
   by_cases h4 : wh < 4
   ·have f4 : decide (wh < 4) = true := by simpa using h4
    clear h4
    go_wp2_with (first | ((with_reducible refine Se.isL (o := ⟨some 35, _, _, _, _, _⟩) ?_); (refine Se.toL rfl (Se.ld (o := ⟨some 35, _, _, _, _, _⟩) hs rfl rfl (Cell.blk 1 rfl rfl) (by kernel_rfl) ?_))) | ((with_reducible refine Se.isL (o := ⟨some 37, _, _, _, _, _⟩) ?_); (refine Se.toL rfl (Se.ld (o := ⟨some 37, _, _, _, _, _⟩) hs rfl rfl (Cell.blk 1 rfl rfl) (by kernel_rfl) ?_))) | ((with_reducible refine Se.isL (o := ⟨some 40, _, _, _, _, _⟩) ?_); (refine Se.toL rfl (Se.ld (o := ⟨some 40, _, _, _, _, _⟩) hs rfl rfl (Cell.blk 2 rfl Z1.out) (by kernel_rfl) ?_))) | ((with_reducible refine Se.isL (o := ⟨some 44, _, _, _, _, _⟩) ?_); (refine Se.toL rfl (Se.ld (o := ⟨some 44, _, _, _, _, _⟩) hs rfl rfl (Cell.blk 1 rfl rfl) (by kernel_rfl) ?_))) | ((with_reducible refine Se.isL (o := ⟨some 48, _, _, _, _, _⟩) ?_); (refine Se.toL rfl (Se.ld (o := ⟨some 48, _, _, _, _, _⟩) hs rfl rfl (Cell.blk 2 rfl Z5.out) (by kernel_rfl) ?_))) | ((with_reducible refine Se.isL (o := ⟨some 50, _, _, _, _, _⟩) ?_); (refine Se.toL rfl (Se.ld (o := ⟨some 50, _, _, _, _, _⟩) hs rfl rfl (Cell.blk 1 rfl rfl) (by kernel_rfl) ?_))) | ((with_reducible refine Se.isL (o := ⟨some 53, _, _, _, _, _⟩) ?_); (refine Se.toL rfl (Se.ld (o := ⟨some 53, _, _, _, _, _⟩) hs rfl rfl (C1.out [_, _, _, _, _]) (by kernel_rfl) ?_))))
    go_meet
    exact ⟨_, rfl, hs⟩
   ·have f4 : decide (wh < 4) = false := by simpa using h4
    clear h4
    go_wp2_with (first | ((with_reducible refine Se.isL (o := ⟨some 35, _, _, _, _, _⟩) ?_); (refine Se.toL rfl (Se.ld (o := ⟨some 35, _, _, _, _, _⟩) hs rfl rfl (Cell.blk 1 rfl rfl) (by kernel_rfl) ?_))) | ((with_reducible refine Se.isL (o := ⟨some 37, _, _, _, _, _⟩) ?_); (refine Se.toL rfl (Se.ld (o := ⟨some 37, _, _, _, _, _⟩) hs rfl rfl (Cell.blk 1 rfl rfl) (by kernel_rfl) ?_))) | ((with_reducible refine Se.isL (o := ⟨some 40, _, _, _, _, _⟩) ?_); (refine Se.toL rfl (Se.ld (o := ⟨some 40, _, _, _, _, _⟩) hs rfl rfl (Cell.blk 2 rfl Z1.out) (by kernel_rfl) ?_))) | ((with_reducible refine Se.isL (o := ⟨some 44, _, _, _, _, _⟩) ?_); (refine Se.toL rfl (Se.ld (o := ⟨some 44, _, _, _, _, _⟩) hs rfl rfl (Cell.blk 1 rfl rfl) (by kernel_rfl) ?_))))
    go_meet
    exact ⟨_, rfl, hs⟩
 case rest =>
 clear hs
 rename World => w
 obtain ⟨lba, rfl, hs⟩ := hcut
 obtain ⟨AL, hAL⟩ : ∃ AL : List Value, AL = [.int .i64 wh, .int .i64 zi, .int .i64 off, .int .i64 n] := ⟨_, rfl⟩
 have A0 := Lib.hid (show AL[0]? = some (.int .i64 wh) by rw [hAL]; rfl)
 have A1 := Lib.hid (show AL[1]? = some (.int .i64 zi) by rw [hAL]; rfl)
 have A3 := Lib.hid (show AL[3]? = some (.int .i64 n) by rw [hAL]; rfl)
 rw [← hAL] at hs
 clear HB Z5 Z1 hAL
 have CR : Hid (∀ (M : List At) (w : World), St w0 X (M ++ pZ g z (some a) cc :: pL r (some a) cc z :: .rd (some ⟨ga, oa, none⟩) (ocs z.l) :: L) w → Calls Try.prog 51 #[.agg ZI.toArray, .int .i64 n] w fun e w' => True ∧ QR w0 X (M ++ pZ g z (some a) cc :: pL r (some a) cc z :: .rd (some ⟨ga, oa, none⟩) (ocs z.l) :: L) (manageAllE z n) e w') := Lib.hid (fun M w hs => rmanageAll_st hs (by simp) HO.out HZ.out n)
 obtain ⟨q, hq⟩ : ∃ q, q = manageAllE z n := ⟨_, rfl⟩
 have HQ := Lib.hid (show Nx z q.1 by rw [hq]; exact Nx.manageAll HO.out n)
 have HLE := Lib.hid (show q.2 ≤ 255 by rw [hq]; exact manageAll_le _ _)
 have CP : Hid (∀ (M : List At) (w : World), St w0 X (M ++ pZ g z (some a) cc :: pL r (some a) cc z :: .rd (some ⟨ga, oa, none⟩) (ocs z.l) :: L) w → Calls Try.prog 28 #[.pointer (some ⟨g, 0, none⟩), .int .i64 n] w fun e w' => e = .returned (.agg (stv q.2).toArray) ∧ ∃ a r c, St w0 X (M ++ pZ g q.1 (some a) c :: pL r (some a) c q.1 :: .rd (some ⟨ga, oa, none⟩) (ocs z.l) :: L) w') := Lib.hid (fun M w hs => by rw [hq]; exact manageAll_M hs HO.out n)
 rw [← hq] at CR
 clear hq HO HW HZ HN
 obtain rfl := HWH.out
 all_goals
  go_upto_region 26 with (first | ((with_reducible refine Se.isL (o := ⟨some 56, _, _, _, _, _⟩) ?_); (refine Se.toL rfl (Se.ld (o := ⟨some 56, _, _, _, _, _⟩) hs rfl rfl (Cell.blk 1 rfl A0.out) (by kernel_rfl) ?_))) | ((with_reducible refine Se.isL (o := ⟨some 141, _, _, _, _, _⟩) ?_); (refine Se.toL rfl (Se.ldw (o := ⟨some 141, _, _, _, _, _⟩) hs rfl rfl ((Reads.blk 2 rfl)) ((by rw [ZLn.out]; kernel_rfl)) (by kernel_rfl) ?_))) | ((with_reducible refine Se.isL (o := ⟨some 143, _, _, _, _, _⟩) ?_); (refine Se.toL rfl (Se.ld (o := ⟨some 143, _, _, _, _, _⟩) hs rfl rfl (Cell.blk 1 rfl A3.out) (by kernel_rfl) ?_))) | ((with_reducible refine Se.isL (o := ⟨some 17, _, _, _, _, _⟩) ?_); (refine Se.toL rfl (Se.al (o := ⟨some 17, _, _, _, _, _⟩) hs rfl (zRz'.out) ?_); clear hs; rintro w g17 - hs)) | ((with_reducible refine Se.isL (o := ⟨none, Op.store 43 _ _, _, _, _, _⟩) ?_); (refine Se.toL rfl (Se.sow 0 hs rfl rfl rfl rfl (hzn.one) ((by rw [hzn.len]; kernel_rfl)) ((by rw [hzn.len, ZL0.out])) ?_); clear hs; intro w hs; try simp only [List.cons_append, List.nil_append, List.set_cons_zero] at hs)) | (go_at_call 51; refine Calls.mono (CR.out [_, _, _] _ hs) ?_; clear hs; rintro e w ⟨-, A', ZN, rfl, hzn, hs⟩))
  have NL := Lib.hid hzn.len
  have NO := Lib.hid hzn.one
  have HZN := Lib.hid hzn
  clear hzn CR
  obtain ⟨c2, hc2⟩ : ∃ c, c = q.2 := ⟨_, rfl⟩
  rw [← hc2] at CP HLE ⊢
  have CC := Lib.hid (fun (L : List At) (w : World) (hs : St w0 X L w) => code_st hs c2 HLE.out)
  clear hc2
  have HS : Hid (∀ (M2 : List At) (w' : World), St w0 X (.blk g17 43 ZN :: .rd A' (ocs q.1.l) :: M2) w' → (∀ a ∈ [At.blk g5 57 AL], a ∈ M2) → Blk w' g17 ZN 43 ∧ Blk w' g5 AL 57) := Lib.hid (fun M2 w' h hm => ⟨h.hold (.blk g17 43 ZN) (by simp), h.hold (.blk g5 57 AL) (by simp [hm])⟩)
  refine Ch.region' 11 (fun wx => Blk wx g17 ZN 43 ∧ Blk wx g5 AL 57) (fun | 5 => true | 7 => true | 9 => true | _ => false) (by kernel_rfl) (by decide +kernel) (HS.out _ _ hs.drew (by simp)) ?_
  replace hs := hs.drew
  generalize w.drew = w at hs ⊢
  change Ch.CW _ _ _ _ _ [0, 1, 2, 3, 4, 5, 6, 7, 8, 9, 10] _ _
  iterate 5 ((first | (refine Ch.pure (v := ?_) (by rfl) (by rfl) (by rfl) (fun wx hS => ?_) ?_; rotate_left; (focus (go_simp; (first | done | with_reducible rfl)))) | refine Ch.pure (v := _) (by rfl) (by rfl) (by rfl) (fun wx hS => Se.xla rfl rfl (Li.Rd.of_blk hS.1) (by rw [NL.out] <;> kernel_rfl) (by kernel_rfl)) ?_ | refine Ch.pure (v := _) (by rfl) (by rfl) (by rfl) (fun wx hS => Se.xl rfl rfl (by rw [hS.2.cell]; exact A3.out) (by decide +kernel)) ?_ | refine Ch.pure (v := _) (by rfl) (by rfl) (by rfl) (fun wx hS => Se.xl rfl rfl (by rw [hS.2.cell]; exact A1.out) (by decide +kernel)) ?_); (try simp only [Act.put, List.setIfInBounds_toArray, List.set_cons_zero, List.set_cons_succ]))
  refine Ch.noise (by rfl) (by rfl) (by rfl) ?_
  refine Se.gcall (f := 28) (args := #[.pointer (some ⟨g, 0, none⟩), .int .i64 n]) ?_ ?_
  ·go_simp
  refine Calls.mono (CP.out [_, _, _, _, _] _ hs) ?_
  clear hs
  rintro e w ⟨rfl, a', r', c', hs⟩
  refine ⟨_, rfl, HS.out _ _ hs (by simp), ?_⟩
  (try simp only [Act.put, List.setIfInBounds_toArray, List.set_cons_zero, List.set_cons_succ])
  iterate 1 ((first | (refine Ch.pure (v := ?_) (by rfl) (by rfl) (by rfl) (fun wx hS => ?_) ?_; rotate_left; (focus (go_simp; (first | done | with_reducible rfl))))); (try simp only [Act.put, List.setIfInBounds_toArray, List.set_cons_zero, List.set_cons_succ]))
  refine Ch.noise (by rfl) (by rfl) (by rfl) ?_
  refine Se.gcall (f := 11) (args := #[.agg (stv c2).toArray, iv c2]) ?_ ?_
  ·go_simp
  refine Calls.mono (CC.out _ _ hs) ?_
  clear hs
  rintro e w ⟨rfl, hs⟩
  refine ⟨_, rfl, HS.out _ _ hs (by simp), ?_⟩
  (try simp only [Act.put, List.setIfInBounds_toArray, List.set_cons_zero, List.set_cons_succ])
  iterate 1 ((first | (refine Ch.pure (v := ?_) (by rfl) (by rfl) (by rfl) (fun wx hS => ?_) ?_; rotate_left; (focus (go_simp; (first | done | with_reducible rfl))))); (try simp only [Act.put, List.setIfInBounds_toArray, List.set_cons_zero, List.set_cons_succ]))
  refine Ch.noise (by rfl) (by rfl) (by rfl) (Se.sow 2 hs rfl rfl rfl rfl NO.out (by rw [NL.out]; kernel_rfl) (by rw [NL.out, ZL0.out]) ?_)
  clear hs
  intro w hs
  simp only [List.cons_append, List.nil_append, List.set_cons_zero, List.set_cons_succ] at hs
  refine ⟨HS.out _ _ hs (by simp), ?_⟩
  (try simp only [Act.put, List.setIfInBounds_toArray, List.set_cons_zero, List.set_cons_succ])
  iterate 1 ((first | (refine Ch.pure (v := ?_) (by rfl) (by rfl) (by rfl) (fun wx hS => ?_) ?_; rotate_left; (focus (go_simp; (first | done | with_reducible rfl))))); (try simp only [Act.put, List.setIfInBounds_toArray, List.set_cons_zero, List.set_cons_succ]))
  refine Ch.done ?_
  try simp only [List.drop_succ_cons, List.drop_zero]
  go_wp2_with fail
  refine Se.ret hs [.pointer (some ⟨g, 0, none⟩), .agg ZN.toArray, .bool true] rfl ⟨rfl, Se.resRow rfl (Reads.blk 2 rfl) (by kernel_rfl) (by rw [NL.out] <;> kernel_rfl), rfl, trivial⟩ (by simp) rfl ?_
  refine ⟨trivial, q.1, g, a', r', c', A', ZN, rfl, HQ.out, HZN.out, ?_⟩
  replace hs := hs.pull 7 rfl
  replace hs := hs.pull 5 rfl
  replace hs := hs.pull 5 rfl
  replace hs := hs.pull 5 rfl
  replace hs := hs.pull 4 rfl
  replace hs := hs.pull 5 rfl
  replace hs := hs.pull 7 rfl
  replace hs := hs.pull 7 rfl
  simp only [List.eraseIdx_cons_succ, List.eraseIdx_cons_zero] at hs
  exact hs.sub (List.Sublist.cons_cons _ (List.Sublist.cons_cons _ (List.Sublist.cons_cons _ (.cons _ (.cons _ (.cons _ (.cons _ (.cons _ (List.Sublist.refl _)))))))))
theorem act_damage {g cc : Nat} {z : Zs} {a : Addr} {r : Option Nat} {A : Option Addr} {ZI : List Value} (hs : St w0 X (pZ g z (some a) cc :: pL r (some a) cc z :: .rd A (ocs z.l) :: L) w) (ho : OkZ z) (hw : z.w < 1099511627776) (hz : RZ z A ZI) {wh zi off n : Int} (hn : n ≤ 9223372036854775807) (hwh : wh = 11) :
  Calls Try.prog 22 #[.pointer (some ⟨g, 0, none⟩), .agg ZI.toArray, .agg #[.int .i64 wh, .int .i64 zi, .int .i64 off, .int .i64 n]] w fun e w' => True ∧ ActR w0 X L z e w' := by
 obtain ⟨k, hk⟩ : ∃ k, k = z.l.length := ⟨_, rfl⟩
 have hk1 : k ≤ 4096 := by rw [hk, ho.1]; exact ho.2.2.1
 have hk0 : 1 ≤ k := by rw [hk, ho.1]; exact ho.2.1
 obtain ⟨sz, hsz⟩ : ∃ s, s = z.c.sz := ⟨_, rfl⟩
 have hsz2 : sz ≤ 65536 := by rw [hsz]; exact ho.2.2.2.2.1
 have ZLn := Lib.hid hz.len
 have ZOn := Lib.hid hz.one
 obtain ⟨ga, oa, rfl, _, _⟩ := (hs.hold (.rd A (ocs z.l)) (by simp)).cells (ocs_ne (by rw [← hk]; exact hk0))
 have Z5 : ∃ cc, ZI[5]? = some (.slice (some ⟨ga, oa, none⟩) k cc) := by obtain ⟨c, hc⟩ := hz; exact ⟨c, by rw [hc, hk]; rfl⟩
 obtain ⟨c5, Z5⟩ := Z5
 have Z5 := Lib.hid Z5
 have Z1 := Lib.hid (show ZI[1]? = some (iv sz) by obtain ⟨c, hc⟩ := hz; rw [hc, hsz]; rfl)
 have HK := Lib.hid hk
 have HO := Lib.hid ho
 have HW := Lib.hid hw
 have HZ := Lib.hid hz
 have HN := Lib.hid hn
 obtain ⟨RZ0, hRZ0⟩ : ∃ R, R = zcl { c := ⟨0, 0, 0, 0, 0⟩, l := [] } none 0 := ⟨_, rfl⟩
 have ZL0 := Lib.hid (show RZ0.length = 7 by rw [hRZ0]; rfl)
 have zRz' := Lib.hid zRz
 rw [← hRZ0] at zRz'
 have HWH := Lib.hid hwh
 clear ho hw hz hn hk hsz hRZ0 hwh
 go_enter Try.func22, Try.ntmps22
 go_upto_region 2 with (first | ((with_reducible refine Se.isL (o := ⟨some 7, _, _, _, _, _⟩) ?_); (refine Se.toL rfl (Se.al (o := ⟨some 7, _, _, _, _, _⟩) hs rfl (zRz'.out) ?_); clear hs; rintro w g7 - hs)) | ((with_reducible refine Se.isL (o := ⟨some 22, _, _, _, _, _⟩) ?_); (refine Se.toL rfl (Se.ld (o := ⟨some 22, _, _, _, _, _⟩) hs rfl rfl (Cell.blk 1 rfl rfl) (by kernel_rfl) ?_))) | ((first | with_reducible refine Se.ab hs ?_ | with_reducible refine Se.abc hs ?_); clear hs; (first | ((fail_if_success (have _q := g4)); generalize w.heap.size = g4; intro w hs) | (generalize w.heap.size = g5; intro w hs))))
 refine Gd.plain 11 (fun wx => Blk wx g5 [.int .i64 wh, .int .i64 zi, .int .i64 off, .int .i64 n] 57 ∧ Blk wx g4 ZI 43) (fun  | _ => false) rfl (⟨hs.hold (.blk g5 57 [.int .i64 wh, .int .i64 zi, .int .i64 off, .int .i64 n]) (by simp), hs.hold (.blk g4 43 ZI) (by simp)⟩) ?_
 change Ch.CW _ _ _ _ _ [0, 1, 2, 3, 4, 5, 6, 7, 8, 9, 10] _ _
 iterate 11 (refine Gd.look (by rfl) ?_; (first | ((with_reducible refine Gd.isLoad0 ?_); first | (refine Gd.qp (v := _) (by rfl) (by rfl) (fun wx hS => Se.xl (by rfl) (by rfl) (by rw [(hS.1).cell]; rfl) (by decide +kernel)) ?_) | (refine Gd.qp (v := _) (by rfl) (by rfl) (fun wx hS => Se.xl (by rfl) (by rfl) (by rw [(hS.2).cell]; first | exact Z5.out) (by decide +kernel)) ?_)) | ((with_reducible refine Gd.isLoad1 ?_); first | (refine Gd.gp (v := ?_) (by rfl) (by first | exact Gd.want_t rfl rfl rfl | exact Gd.want_f rfl rfl rfl | exact Gd.want_mt rfl rfl rfl | exact Gd.want_mf rfl rfl rfl) ?_ ?_; rotate_left; (focus ((intro hb; have hb0 := hb; (try simp only [Bool.and_eq_true] at hb)); intro wx hS; exact Se.xl (by rfl) (by exact Gd.mv_of hb0) (by rw [(hS.1).cell]; rfl) (by decide +kernel)))) | (refine Gd.gp (v := ?_) (by rfl) (by first | exact Gd.want_t rfl rfl rfl | exact Gd.want_f rfl rfl rfl | exact Gd.want_mt rfl rfl rfl | exact Gd.want_mf rfl rfl rfl) ?_ ?_; rotate_left; (focus ((intro hb; have hb0 := hb; (try simp only [Bool.and_eq_true] at hb)); intro wx hS; exact Se.xl (by rfl) (by rfl) (by rw [(hS.1).cell]; rfl) (by decide +kernel)))) | (refine Gd.gp (v := ?_) (by rfl) (by first | exact Gd.want_t rfl rfl rfl | exact Gd.want_f rfl rfl rfl | exact Gd.want_mt rfl rfl rfl | exact Gd.want_mf rfl rfl rfl) ?_ ?_; rotate_left; (focus ((intro hb; have hb0 := hb; (try simp only [Bool.and_eq_true] at hb)); intro wx hS; exact Se.xl (by rfl) (by exact Gd.mv_of hb0) (by rw [(hS.2).cell]; first | exact Z5.out) (by decide +kernel)))) | (refine Gd.gp (v := ?_) (by rfl) (by first | exact Gd.want_t rfl rfl rfl | exact Gd.want_f rfl rfl rfl | exact Gd.want_mt rfl rfl rfl | exact Gd.want_mf rfl rfl rfl) ?_ ?_; rotate_left; (focus ((intro hb; have hb0 := hb; (try simp only [Bool.and_eq_true] at hb)); intro wx hS; exact Se.xl (by rfl) (by rfl) (by rw [(hS.2).cell]; first | exact Z5.out) (by decide +kernel))))) | ((with_reducible refine Gd.isPick0 ?_); refine Gd.qpick (b := _) (v := ?_) (e := ?_) (by rfl) (by rfl) (by rfl) (by rfl) ?_ ?_ ?_; rotate_left 2; (focus (go_simp; (first | done | with_reducible rfl))); (focus (with_reducible rfl)); (intro _ _)) | ((with_reducible refine Gd.isPick1 ?_); refine Gd.gpick (b := ?_) (v := ?_) (e := ?_) (by rfl) (by rfl) (by first | exact Gd.want_t rfl rfl rfl | exact Gd.want_f rfl rfl rfl | exact Gd.want_mt rfl rfl rfl | exact Gd.want_mf rfl rfl rfl) ?_ ?_ ?_; rotate_left 3; (focus ((intro hb; have hb0 := hb; (try simp only [Bool.and_eq_true] at hb)); refine ⟨?_, ?_⟩ <;> (go_simp; (first | done | with_reducible rfl)))); (focus (with_reducible rfl)); (intro _ _)) | ((with_reducible refine Gd.isBin0 (ty := 4) ?_); refine Gd.qb (v := ?_) (e := ?_) (by rfl) (by rfl) (fun wx hS => ?_) ?_ ?_; rotate_left 2; (focus (go_simp; (first | done | with_reducible rfl))); (focus (with_reducible rfl)); (intro _ _)) | ((with_reducible refine Gd.isUn0 (ty := 4) ?_); refine Gd.qb (v := ?_) (e := ?_) (by rfl) (by rfl) (fun wx hS => ?_) ?_ ?_; rotate_left 2; (focus (go_simp; (first | done | with_reducible rfl))); (focus (with_reducible rfl)); (intro _ _)) | ((with_reducible refine Gd.isBin1 (ty := 4) ?_); refine Gd.gb (v := ?_) (e := ?_) (by rfl) (by first | exact Gd.want_t rfl rfl rfl | exact Gd.want_f rfl rfl rfl | exact Gd.want_mt rfl rfl rfl | exact Gd.want_mf rfl rfl rfl) ?_ ?_ ?_; rotate_left 2; (focus ((intro hb; have hb0 := hb; (try simp only [Bool.and_eq_true] at hb)); intro wx hS; go_simp; (first | done | with_reducible rfl))); (focus (with_reducible rfl)); (intro _ _)) | ((with_reducible refine Gd.isUn1 (ty := 4) ?_); refine Gd.gb (v := ?_) (e := ?_) (by rfl) (by first | exact Gd.want_t rfl rfl rfl | exact Gd.want_f rfl rfl rfl | exact Gd.want_mt rfl rfl rfl | exact Gd.want_mf rfl rfl rfl) ?_ ?_ ?_; rotate_left 2; (focus ((intro hb; have hb0 := hb; (try simp only [Bool.and_eq_true] at hb)); intro wx hS; go_simp; (first | done | with_reducible rfl))); (focus (with_reducible rfl)); (intro _ _)) | ((with_reducible refine Gd.is0 ?_); refine Gd.qp (v := ?_) (by rfl) (by rfl) (fun wx hS => ?_) ?_; rotate_left; (focus (go_simp; (first | done | with_reducible rfl)))) | ((with_reducible refine Gd.is1 ?_); refine Gd.gp (v := ?_) (by rfl) (by first | exact Gd.want_t rfl rfl rfl | exact Gd.want_f rfl rfl rfl | exact Gd.want_mt rfl rfl rfl | exact Gd.want_mf rfl rfl rfl) ?_ ?_; rotate_left; (focus ((intro hb; have hb0 := hb; (try simp only [Bool.and_eq_true] at hb)); intro wx hS; go_simp; (first | done | with_reducible rfl))))); (try simp only [Act.put, List.setIfInBounds_toArray, List.set_cons_zero, List.set_cons_succ]))
 refine Ch.done ?_
 rename_i cb hcb
 have hb : (decide (0 ≤ zi) && decide (zi < (k : Int))) = cb := and2c hcb (by assumption) (by assumption)
 have HB := Lib.hid hb
 clear hb hcb
 go_upto_if 33 with (fail)
 go_cut [9] (fun s9 wx => ∃ lba : Int, s9 = .int .i64 lba ∧ St w0 X (.blk g7 43 RZ0 :: .blk g5 57 [.int .i64 wh, .int .i64 zi, .int .i64 off, .int .i64 n] :: .blk g4 43 ZI :: pZ g z (some a) cc :: pL r (some a) cc z :: .rd (some ⟨ga, oa, none⟩) (ocs z.l) :: L) wx)
 case first =>
  cases cb with
  | false =>
   go_wp2_with fail
   go_meet
   exact ⟨off, rfl, hs⟩
  | true =>
   have hzi := HB.out
   simp only [Bool.and_eq_true, decide_eq_true_eq] at hzi
   obtain ⟨zn, rfl⟩ : ∃ m : Nat, zi = (m : Int) := ⟨zi.toNat, by omega⟩
   have hzl : zn < z.l.length := by have := HK.out; omega
   obtain ⟨p, hp⟩ : ∃ p, p = (z.l.getD zn dz).p := ⟨_, rfl⟩
   have C1 : Hid (∀ M : List At, Cell (M ++ .rd (some ⟨ga, oa, none⟩) (ocs z.l) :: L) ga (oa + zn * 3 + 1) (iv p)) := Lib.hid (fun M => capp M (rcell (Reads.rd 0 rfl) hzl 1 (by decide) (by rw [hp]; rfl)))
   have hzk : (zn : Int) < (k : Int) := hzi.2
   clear hzi HB hzl hp
   by_cases h4 : wh < 4
   ·have f4 : decide (wh < 4) = true := by simpa using h4
    clear h4
    go_wp2_with (first | ((with_reducible refine Se.isL (o := ⟨some 35, _, _, _, _, _⟩) ?_); (refine Se.toL rfl (Se.ld (o := ⟨some 35, _, _, _, _, _⟩) hs rfl rfl (Cell.blk 1 rfl rfl) (by kernel_rfl) ?_))) | ((with_reducible refine Se.isL (o := ⟨some 37, _, _, _, _, _⟩) ?_); (refine Se.toL rfl (Se.ld (o := ⟨some 37, _, _, _, _, _⟩) hs rfl rfl (Cell.blk 1 rfl rfl) (by kernel_rfl) ?_))) | ((with_reducible refine Se.isL (o := ⟨some 40, _, _, _, _, _⟩) ?_); (refine Se.toL rfl (Se.ld (o := ⟨some 40, _, _, _, _, _⟩) hs rfl rfl (Cell.blk 2 rfl Z1.out) (by kernel_rfl) ?_))) | ((with_reducible refine Se.isL (o := ⟨some 44, _, _, _, _, _⟩) ?_); (refine Se.toL rfl (Se.ld (o := ⟨some 44, _, _, _, _, _⟩) hs rfl rfl (Cell.blk 1 rfl rfl) (by kernel_rfl) ?_))) | ((with_reducible refine Se.isL (o := ⟨some 48, _, _, _, _, _⟩) ?_); (refine Se.toL rfl (Se.ld (o := ⟨some 48, _, _, _, _, _⟩) hs rfl rfl (Cell.blk 2 rfl Z5.out) (by kernel_rfl) ?_))) | ((with_reducible refine Se.isL (o := ⟨some 50, _, _, _, _, _⟩) ?_); (refine Se.toL rfl (Se.ld (o := ⟨some 50, _, _, _, _, _⟩) hs rfl rfl (Cell.blk 1 rfl rfl) (by kernel_rfl) ?_))) | ((with_reducible refine Se.isL (o := ⟨some 53, _, _, _, _, _⟩) ?_); (refine Se.toL rfl (Se.ld (o := ⟨some 53, _, _, _, _, _⟩) hs rfl rfl (C1.out [_, _, _, _, _]) (by kernel_rfl) ?_))))
    go_meet
    exact ⟨_, rfl, hs⟩
   ·have f4 : decide (wh < 4) = false := by simpa using h4
    clear h4
    go_wp2_with (first | ((with_reducible refine Se.isL (o := ⟨some 35, _, _, _, _, _⟩) ?_); (refine Se.toL rfl (Se.ld (o := ⟨some 35, _, _, _, _, _⟩) hs rfl rfl (Cell.blk 1 rfl rfl) (by kernel_rfl) ?_))) | ((with_reducible refine Se.isL (o := ⟨some 37, _, _, _, _, _⟩) ?_); (refine Se.toL rfl (Se.ld (o := ⟨some 37, _, _, _, _, _⟩) hs rfl rfl (Cell.blk 1 rfl rfl) (by kernel_rfl) ?_))) | ((with_reducible refine Se.isL (o := ⟨some 40, _, _, _, _, _⟩) ?_); (refine Se.toL rfl (Se.ld (o := ⟨some 40, _, _, _, _, _⟩) hs rfl rfl (Cell.blk 2 rfl Z1.out) (by kernel_rfl) ?_))) | ((with_reducible refine Se.isL (o := ⟨some 44, _, _, _, _, _⟩) ?_); (refine Se.toL rfl (Se.ld (o := ⟨some 44, _, _, _, _, _⟩) hs rfl rfl (Cell.blk 1 rfl rfl) (by kernel_rfl) ?_))))
    go_meet
    exact ⟨_, rfl, hs⟩
 case rest =>
 clear hs
 rename World => w
 obtain ⟨lba, rfl, hs⟩ := hcut
 obtain ⟨AL, hAL⟩ : ∃ AL : List Value, AL = [.int .i64 wh, .int .i64 zi, .int .i64 off, .int .i64 n] := ⟨_, rfl⟩
 have A0 := Lib.hid (show AL[0]? = some (.int .i64 wh) by rw [hAL]; rfl)
 have A1 := Lib.hid (show AL[1]? = some (.int .i64 zi) by rw [hAL]; rfl)
 have A3 := Lib.hid (show AL[3]? = some (.int .i64 n) by rw [hAL]; rfl)
 rw [← hAL] at hs
 clear HB Z5 Z1 hAL
 have CR : Hid (∀ (M : List At) (w : World), St w0 X (M ++ pZ g z (some a) cc :: pL r (some a) cc z :: .rd (some ⟨ga, oa, none⟩) (ocs z.l) :: L) w → Calls Try.prog 52 #[.agg ZI.toArray, .int .i64 zi, .bool (n.tmod 2 == 1)] w fun e w' => True ∧ QR w0 X (M ++ pZ g z (some a) cc :: pL r (some a) cc z :: .rd (some ⟨ga, oa, none⟩) (ocs z.l) :: L) (damageE z zi (n.tmod 2 == 1)) e w') := Lib.hid (fun M w hs => rdamage_st hs (by simp) HO.out HZ.out zi (n.tmod 2 == 1))
 obtain ⟨q, hq⟩ : ∃ q, q = damageE z zi (n.tmod 2 == 1) := ⟨_, rfl⟩
 have HQ := Lib.hid (show Nx z q.1 by rw [hq]; exact Nx.damage HO.out zi (n.tmod 2 == 1))
 have HLE := Lib.hid (show q.2 ≤ 255 by rw [hq]; exact damage_le _ _ _)
 have CP : Hid (∀ (M : List At) (w : World), St w0 X (M ++ pZ g z (some a) cc :: pL r (some a) cc z :: .rd (some ⟨ga, oa, none⟩) (ocs z.l) :: L) w → Calls Try.prog 17 #[.pointer (some ⟨g, 0, none⟩), .int .i64 zi, .bool (n.tmod 2 == 1)] w fun e w' => e = .returned (iv q.2) ∧ ∃ a r c, St w0 X (M ++ pZ g q.1 (some a) c :: pL r (some a) c q.1 :: .rd (some ⟨ga, oa, none⟩) (ocs z.l) :: L) w') := Lib.hid (fun M w hs => by rw [hq]; exact damage_M hs HO.out zi (n.tmod 2 == 1))
 rw [← hq] at CR
 clear hq HO HW HZ HN
 obtain rfl := HWH.out
 all_goals
  go_upto_region 29 with (first | ((with_reducible refine Se.isL (o := ⟨some 56, _, _, _, _, _⟩) ?_); (refine Se.toL rfl (Se.ld (o := ⟨some 56, _, _, _, _, _⟩) hs rfl rfl (Cell.blk 1 rfl A0.out) (by kernel_rfl) ?_))) | ((with_reducible refine Se.isL (o := ⟨some 158, _, _, _, _, _⟩) ?_); (refine Se.toL rfl (Se.ldw (o := ⟨some 158, _, _, _, _, _⟩) hs rfl rfl ((Reads.blk 2 rfl)) ((by rw [ZLn.out]; kernel_rfl)) (by kernel_rfl) ?_))) | ((with_reducible refine Se.isL (o := ⟨some 160, _, _, _, _, _⟩) ?_); (refine Se.toL rfl (Se.ld (o := ⟨some 160, _, _, _, _, _⟩) hs rfl rfl (Cell.blk 1 rfl A1.out) (by kernel_rfl) ?_))) | ((with_reducible refine Se.isL (o := ⟨some 162, _, _, _, _, _⟩) ?_); (refine Se.toL rfl (Se.ld (o := ⟨some 162, _, _, _, _, _⟩) hs rfl rfl (Cell.blk 1 rfl A3.out) (by kernel_rfl) ?_))) | ((with_reducible refine Se.isL (o := ⟨some 19, _, _, _, _, _⟩) ?_); (refine Se.toL rfl (Se.al (o := ⟨some 19, _, _, _, _, _⟩) hs rfl (zRz'.out) ?_); clear hs; rintro w g19 - hs)) | ((with_reducible refine Se.isL (o := ⟨none, Op.store 43 _ _, _, _, _, _⟩) ?_); (refine Se.toL rfl (Se.sow 0 hs rfl rfl rfl rfl (hzn.one) ((by rw [hzn.len]; kernel_rfl)) ((by rw [hzn.len, ZL0.out])) ?_); clear hs; intro w hs; try simp only [List.cons_append, List.nil_append, List.set_cons_zero] at hs)) | (go_at_call 52; refine Calls.mono (CR.out [_, _, _] _ hs) ?_; clear hs; rintro e w ⟨-, A', ZN, rfl, hzn, hs⟩))
  have NL := Lib.hid hzn.len
  have NO := Lib.hid hzn.one
  have HZN := Lib.hid hzn
  clear hzn CR
  obtain ⟨c2, hc2⟩ : ∃ c, c = q.2 := ⟨_, rfl⟩
  rw [← hc2] at CP HLE ⊢
  have CC := Lib.hid (fun (L : List At) (w : World) (hs : St w0 X L w) => num_v hs (c2 : Int))
  clear hc2
  have HS : Hid (∀ (M2 : List At) (w' : World), St w0 X (.blk g19 43 ZN :: .rd A' (ocs q.1.l) :: M2) w' → (∀ a ∈ [At.blk g5 57 AL], a ∈ M2) → Blk w' g19 ZN 43 ∧ Blk w' g5 AL 57) := Lib.hid (fun M2 w' h hm => ⟨h.hold (.blk g19 43 ZN) (by simp), h.hold (.blk g5 57 AL) (by simp [hm])⟩)
  refine Ch.region' 16 (fun wx => Blk wx g19 ZN 43 ∧ Blk wx g5 AL 57) (fun | 9 => true | 10 => true | 14 => true | _ => false) (by kernel_rfl) (by decide +kernel) (HS.out _ _ hs.drew (by simp)) ?_
  replace hs := hs.drew
  generalize w.drew = w at hs ⊢
  change Ch.CW _ _ _ _ _ [0, 1, 2, 3, 4, 5, 6, 7, 8, 9, 10, 11, 12, 13, 14, 15] _ _
  iterate 9 ((first | (refine Ch.pure (v := ?_) (by rfl) (by rfl) (by rfl) (fun wx hS => ?_) ?_; rotate_left; (focus (go_simp; (first | done | with_reducible rfl)))) | refine Ch.pure (v := _) (by rfl) (by rfl) (by rfl) (fun wx hS => Se.xla rfl rfl (Li.Rd.of_blk hS.1) (by rw [NL.out] <;> kernel_rfl) (by kernel_rfl)) ?_ | refine Ch.pure (v := _) (by rfl) (by rfl) (by rfl) (fun wx hS => Se.xl rfl rfl (by rw [hS.2.cell]; exact A3.out) (by decide +kernel)) ?_ | refine Ch.pure (v := _) (by rfl) (by rfl) (by rfl) (fun wx hS => Se.xl rfl rfl (by rw [hS.2.cell]; exact A1.out) (by decide +kernel)) ?_); (try simp only [Act.put, List.setIfInBounds_toArray, List.set_cons_zero, List.set_cons_succ]))
  refine Ch.noise (by rfl) (by rfl) (by rfl) ?_
  refine Se.gcall (f := 17) (args := #[.pointer (some ⟨g, 0, none⟩), .int .i64 zi, .bool (n.tmod 2 == 1)]) ?_ ?_
  ·go_simp
  refine Calls.mono (CP.out [_, _, _, _, _] _ hs) ?_
  clear hs
  rintro e w ⟨rfl, a', r', c', hs⟩
  refine ⟨_, rfl, HS.out _ _ hs (by simp), ?_⟩
  (try simp only [Act.put, List.setIfInBounds_toArray, List.set_cons_zero, List.set_cons_succ])
  refine Ch.noise (by rfl) (by rfl) (by rfl) ?_
  refine Se.gcall (f := 10) (args := #[iv c2]) ?_ ?_
  ·go_simp
  refine Calls.mono (CC.out _ _ hs) ?_
  clear hs
  rintro e w ⟨rfl, hs⟩
  refine ⟨_, rfl, HS.out _ _ hs (by simp), ?_⟩
  (try simp only [Act.put, List.setIfInBounds_toArray, List.set_cons_zero, List.set_cons_succ])
  have ecc : ((c2 : Int) == (c2 : Int)) = true := by simp
  iterate 3 ((first | (refine Ch.pure (v := ?_) (by rfl) (by rfl) (by rfl) (fun wx hS => ?_) ?_; rotate_left; (focus (go_simp; (first | done | with_reducible rfl))))); (try simp only [Act.put, List.setIfInBounds_toArray, List.set_cons_zero, List.set_cons_succ]))
  refine Ch.noise (by rfl) (by rfl) (by rfl) (Se.sow 2 hs rfl rfl rfl rfl NO.out (by rw [NL.out]; kernel_rfl) (by rw [NL.out, ZL0.out]) ?_)
  clear hs
  intro w hs
  simp only [List.cons_append, List.nil_append, List.set_cons_zero, List.set_cons_succ] at hs
  refine ⟨HS.out _ _ hs (by simp), ?_⟩
  (try simp only [Act.put, List.setIfInBounds_toArray, List.set_cons_zero, List.set_cons_succ])
  iterate 1 ((first | (refine Ch.pure (v := ?_) (by rfl) (by rfl) (by rfl) (fun wx hS => ?_) ?_; rotate_left; (focus (go_simp; (first | done | with_reducible rfl))))); (try simp only [Act.put, List.setIfInBounds_toArray, List.set_cons_zero, List.set_cons_succ]))
  refine Ch.done ?_
  try simp only [List.drop_succ_cons, List.drop_zero]
  go_wp2_with fail
  refine Se.ret hs [.pointer (some ⟨g, 0, none⟩), .agg ZN.toArray, .bool true] rfl ⟨rfl, Se.resRow rfl (Reads.blk 2 rfl) (by kernel_rfl) (by rw [NL.out] <;> kernel_rfl), rfl, trivial⟩ (by simp) rfl ?_
  refine ⟨trivial, q.1, g, a', r', c', A', ZN, rfl, HQ.out, HZN.out, ?_⟩
  replace hs := hs.pull 7 rfl
  replace hs := hs.pull 5 rfl
  replace hs := hs.pull 5 rfl
  replace hs := hs.pull 5 rfl
  replace hs := hs.pull 4 rfl
  replace hs := hs.pull 5 rfl
  replace hs := hs.pull 7 rfl
  replace hs := hs.pull 7 rfl
  simp only [List.eraseIdx_cons_succ, List.eraseIdx_cons_zero] at hs
  exact hs.sub (List.Sublist.cons_cons _ (List.Sublist.cons_cons _ (List.Sublist.cons_cons _ (.cons _ (.cons _ (.cons _ (.cons _ (.cons _ (List.Sublist.refl _)))))))))
end Zo
end Go.Proofs.Ythpgkkfahiglnaa


/- Layer 28's reference: New. No condition but Go's own limits. Printed by wip/gen_zoner6.py. -/
import Derived.Test.YthpgkkfahiglnaaZoneR2
import Derived.Test.YthpgkkfahiglnaaZoneNew
set_option maxRecDepth 100000
set_option maxHeartbeats 4000000
set_option linter.unusedSimpArgs false
set_option linter.unusedVariables false
namespace Go.Proofs.Ythpgkkfahiglnaa
open Go Go.RowKit
namespace Zo
open Se (St At Reads Cell)
open Li (Rd Blk Fr)
variable {w0 w : World} {X : List Nat} {L : List At}
attribute [local irreducible] Calls
attribute [local go_sem] eql_nil Gd.mv_true Gd.pk_or Gd.pk_and Gd.pk_true Gd.pk_false
theorem and10 {c a0 a1 a2 a3 a4 a5 a6 a7 a8 a9 e0 e1 e2 e3 e4 e5 e6 e7 e8 e9 d1 d2 d3 d4 d5 d6 d7 d8 : Bool}
  (h9 : Hid (c = (d8 && e9))) (h8 : Hid (d8 = (d7 && e8))) (h7 : Hid (d7 = (d6 && e7))) (h6 : Hid (d6 = (d5 && e6))) (h5 : Hid (d5 = (d4 && e5))) (h4 : Hid (d4 = (d3 && e4))) (h3 : Hid (d3 = (d2 && e3))) (h2 : Hid (d2 = (d1 && e2))) (h1 : Hid (d1 = (e0 && e1)))
  (g0 : Hid (e0 = a0)) (g1 : Hid (e1 = a1)) (g2 : Hid (e2 = a2)) (g3 : Hid (e3 = a3)) (g4 : Hid (e4 = a4)) (g5 : Hid (e5 = a5)) (g6 : Hid (e6 = a6)) (g7 : Hid (e7 = a7)) (g8 : Hid (e8 = a8)) (g9 : Hid (e9 = a9)) :
  (a0 && a1 && a2 && a3 && a4 && a5 && a6 && a7 && a8 && a9) = c := by
 rw [h9.out, h8.out, h7.out, h6.out, h5.out, h4.out, h3.out, h2.out, h1.out, g0.out, g1.out, g2.out, g3.out, g4.out, g5.out, g6.out, g7.out, g8.out, g9.out]
theorem rnew_no (hs : St w0 X L w) {n sz cap mo ma : Int} (h : okC n sz cap mo ma = false) :
  Calls Try.prog 16 #[.agg #[.int .i64 n, .int .i64 sz, .int .i64 cap, .int .i64 mo, .int .i64 ma]] w fun e w' => e = .returned (.tuple #[.agg (zcl { c := ⟨0, 0, 0, 0, 0⟩, l := [] } none 0).toArray, iv 2]) ∧ St w0 X L w' := by
 obtain ⟨C, hC⟩ : ∃ C, C = [Value.int .i64 n, .int .i64 sz, .int .i64 cap, .int .i64 mo, .int .i64 ma] := ⟨_, rfl⟩
 have R0 := Lib.hid (show C[0]? = some (.int .i64 n) by rw [hC]; rfl)
 have R1 := Lib.hid (show C[1]? = some (.int .i64 sz) by rw [hC]; rfl)
 have R2 := Lib.hid (show C[2]? = some (.int .i64 cap) by rw [hC]; rfl)
 have R3 := Lib.hid (show C[3]? = some (.int .i64 mo) by rw [hC]; rfl)
 have R4 := Lib.hid (show C[4]? = some (.int .i64 ma) by rw [hC]; rfl)
 have hC2 : #[Value.int .i64 n, .int .i64 sz, .int .i64 cap, .int .i64 mo, .int .i64 ma] = C.toArray := by rw [hC]
 rw [hC2]
 obtain ⟨RZ0, hRZ0⟩ : ∃ R, R = zcl { c := ⟨0, 0, 0, 0, 0⟩, l := [] } none 0 := ⟨_, rfl⟩
 have ZL0 := Lib.hid (show RZ0.length = 7 by rw [hRZ0]; rfl)
 have zRz' := Lib.hid zRz
 rw [← hRZ0] at zRz'
 have HR0 := Lib.hid hRZ0
 rw [← hRZ0]
 clear hRZ0
 clear hC hC2
 simp only [okC, decide_eq_false_iff_not] at h
 have BZ : Hid (∀ w : World, (Instr.build 43 #[]).run Try.prog w = .ok (.agg RZ0.toArray) w) := Lib.hid (fun w => by rw [HR0.out]; kernel_rfl)
 have ZO := Lib.hid (show ∀ v ∈ RZ0, v.oneCell' = true by rw [HR0.out]; exact zcl_one _ _ _)
 go_enter Try.func16, Try.ntmps16
 go_upto_region 1 with (first | ((with_reducible refine Se.isL (o := ⟨some 2, _, _, _, _, _⟩) ?_); (refine Se.toL rfl (Se.al (o := ⟨some 2, _, _, _, _, _⟩) hs rfl (zRz'.out) ?_); clear hs; rintro w g2 - hs)) | ((first | with_reducible refine Se.ab hs ?_ | with_reducible refine Se.abc hs ?_); clear hs; (first | (generalize w.heap.size = g1; intro w hs))))
 refine Gd.plain 55 (fun wx => Blk wx g1 C 24) (fun  | _ => false) rfl (hs.hold (.blk g1 24 C) (by simp)) ?_
 change Ch.CW _ _ _ _ _ [0, 1, 2, 3, 4, 5, 6, 7, 8, 9, 10, 11, 12, 13, 14, 15, 16, 17, 18, 19, 20, 21, 22, 23, 24, 25, 26, 27, 28, 29, 30, 31, 32, 33, 34, 35, 36, 37, 38, 39, 40, 41, 42, 43, 44, 45, 46, 47, 48, 49, 50, 51, 52, 53, 54] _ _
 iterate 55 (refine Gd.look (by rfl) ?_; (first | ((with_reducible refine Gd.isLoad0 ?_); first | (refine Gd.qp (v := _) (by rfl) (by rfl) (fun wx hS => Se.xl (by rfl) (by rfl) (by rw [(hS).cell]; first | exact R0.out | exact R1.out | exact R2.out | exact R3.out | exact R4.out) (by decide +kernel)) ?_)) | ((with_reducible refine Gd.isLoad1 ?_); first | (refine Gd.gp (v := ?_) (by rfl) (by first | exact Gd.want_t rfl rfl rfl | exact Gd.want_f rfl rfl rfl | exact Gd.want_mt rfl rfl rfl | exact Gd.want_mf rfl rfl rfl) ?_ ?_; rotate_left; (focus ((intro hb; have hb0 := hb; (try simp only [Bool.and_eq_true] at hb)); intro wx hS; exact Se.xl (by rfl) (by exact Gd.mv_of hb0) (by rw [(hS).cell]; first | exact R0.out | exact R1.out | exact R2.out | exact R3.out | exact R4.out) (by decide +kernel)))) | (refine Gd.gp (v := ?_) (by rfl) (by first | exact Gd.want_t rfl rfl rfl | exact Gd.want_f rfl rfl rfl | exact Gd.want_mt rfl rfl rfl | exact Gd.want_mf rfl rfl rfl) ?_ ?_; rotate_left; (focus ((intro hb; have hb0 := hb; (try simp only [Bool.and_eq_true] at hb)); intro wx hS; exact Se.xl (by rfl) (by rfl) (by rw [(hS).cell]; first | exact R0.out | exact R1.out | exact R2.out | exact R3.out | exact R4.out) (by decide +kernel))))) | ((with_reducible refine Gd.isPick0 ?_); refine Gd.qpick (b := _) (v := ?_) (e := ?_) (by rfl) (by rfl) (by rfl) (by rfl) ?_ ?_ ?_; rotate_left 2; (focus (go_simp; (first | done | with_reducible rfl))); (focus (with_reducible rfl)); (intro _ _)) | ((with_reducible refine Gd.isPick1 ?_); refine Gd.gpick (b := ?_) (v := ?_) (e := ?_) (by rfl) (by rfl) (by first | exact Gd.want_t rfl rfl rfl | exact Gd.want_f rfl rfl rfl | exact Gd.want_mt rfl rfl rfl | exact Gd.want_mf rfl rfl rfl) ?_ ?_ ?_; rotate_left 3; (focus ((intro hb; have hb0 := hb; (try simp only [Bool.and_eq_true] at hb)); refine ⟨?_, ?_⟩ <;> (go_simp; (first | done | with_reducible rfl)))); (focus (with_reducible rfl)); (intro _ _)) | ((with_reducible refine Gd.isBin0 (ty := 4) ?_); refine Gd.qb (v := ?_) (e := ?_) (by rfl) (by rfl) (fun wx hS => ?_) ?_ ?_; rotate_left 2; (focus (go_simp; (first | done | with_reducible rfl))); (focus (with_reducible rfl)); (intro _ _)) | ((with_reducible refine Gd.isUn0 (ty := 4) ?_); refine Gd.qb (v := ?_) (e := ?_) (by rfl) (by rfl) (fun wx hS => ?_) ?_ ?_; rotate_left 2; (focus (go_simp; (first | done | with_reducible rfl))); (focus (with_reducible rfl)); (intro _ _)) | ((with_reducible refine Gd.isBin1 (ty := 4) ?_); refine Gd.gb (v := ?_) (e := ?_) (by rfl) (by first | exact Gd.want_t rfl rfl rfl | exact Gd.want_f rfl rfl rfl | exact Gd.want_mt rfl rfl rfl | exact Gd.want_mf rfl rfl rfl) ?_ ?_ ?_; rotate_left 2; (focus ((intro hb; have hb0 := hb; (try simp only [Bool.and_eq_true] at hb)); intro wx hS; go_simp; (first | done | with_reducible rfl))); (focus (with_reducible rfl)); (intro _ _)) | ((with_reducible refine Gd.isUn1 (ty := 4) ?_); refine Gd.gb (v := ?_) (e := ?_) (by rfl) (by first | exact Gd.want_t rfl rfl rfl | exact Gd.want_f rfl rfl rfl | exact Gd.want_mt rfl rfl rfl | exact Gd.want_mf rfl rfl rfl) ?_ ?_ ?_; rotate_left 2; (focus ((intro hb; have hb0 := hb; (try simp only [Bool.and_eq_true] at hb)); intro wx hS; go_simp; (first | done | with_reducible rfl))); (focus (with_reducible rfl)); (intro _ _)) | ((with_reducible refine Gd.is0 ?_); refine Gd.qp (v := ?_) (by rfl) (by rfl) (fun wx hS => ?_) ?_; rotate_left; (focus (go_simp; (first | done | with_reducible rfl)))) | ((with_reducible refine Gd.is1 ?_); refine Gd.gp (v := ?_) (by rfl) (by first | exact Gd.want_t rfl rfl rfl | exact Gd.want_f rfl rfl rfl | exact Gd.want_mt rfl rfl rfl | exact Gd.want_mf rfl rfl rfl) ?_ ?_; rotate_left; (focus ((intro hb; have hb0 := hb; (try simp only [Bool.and_eq_true] at hb)); intro wx hS; go_simp; (first | done | with_reducible rfl))))); (try simp only [Act.put, List.setIfInBounds_toArray, List.set_cons_zero, List.set_cons_succ]))
 refine Ch.done ?_
 rename_i cb hc
 have hb : (decide (1 ≤ n) && decide (n ≤ 4096) && decide (1 ≤ sz) && decide (sz ≤ 65536) && decide (1 ≤ cap) && decide (cap ≤ sz) && decide (0 ≤ mo) && decide (mo ≤ n) && decide (0 ≤ ma) && decide (ma ≤ n)) = cb := and10 hc (by assumption) (by assumption) (by assumption) (by assumption) (by assumption) (by assumption) (by assumption) (by assumption) (by assumption) (by assumption) (by assumption) (by assumption) (by assumption) (by assumption) (by assumption) (by assumption) (by assumption) (by assumption)
 cases cb with
 | false =>
  have H := Lib.hid h
  clear hb h HR0
  go_wp2_with (first | ((with_reducible refine Se.isL (o := ⟨some 80, _, _, _, _, _⟩) ?_); (refine Se.toL rfl (Se.bd (o := ⟨some 80, _, _, _, _, _⟩) rfl rfl (BZ.out _) ?_))) | ((with_reducible refine Se.isL (o := ⟨none, _, _, _, _, _⟩) ?_); (refine Se.toL rfl (Se.sow 0 hs rfl rfl rfl rfl (ZO.out) ((by rw [ZL0.out]; kernel_rfl)) (rfl) ?_); clear hs; intro w hs; try simp only [List.cons_append, List.nil_append, List.set_cons_zero] at hs)))
  refine Se.ret hs [.agg RZ0.toArray, .int .i64 2] rfl ⟨Se.resRow rfl (Reads.blk 0 rfl) (by kernel_rfl) (by rw [ZL0.out] <;> kernel_rfl), rfl, trivial⟩ (by simp) rfl ?_
  exact ⟨rfl, hs.drop.drop⟩
 | true =>
  simp only [Bool.and_eq_true, decide_eq_true_eq] at hb
  have f1 : decide (0 < mo) = true := by simp; omega
  have f2 : decide (0 < ma) = true := by simp; omega
  have f3 : decide (ma < mo) = true := by simp; omega
  clear hb h HR0
  go_wp2_with (first | ((with_reducible refine Se.isL (o := ⟨some 65, _, _, _, _, _⟩) ?_); (refine Se.toL rfl (Se.ld (o := ⟨some 65, _, _, _, _, _⟩) hs rfl rfl (Cell.blk 1 rfl R3.out) (by kernel_rfl) ?_))) | ((with_reducible refine Se.isL (o := ⟨some 69, _, _, _, _, _⟩) ?_); (refine Se.toL rfl (Se.ld (o := ⟨some 69, _, _, _, _, _⟩) hs rfl rfl (Cell.blk 1 rfl R4.out) (by kernel_rfl) ?_))) | ((with_reducible refine Se.isL (o := ⟨some 74, _, _, _, _, _⟩) ?_); (refine Se.toL rfl (Se.ld (o := ⟨some 74, _, _, _, _, _⟩) hs rfl rfl (Cell.blk 1 rfl R3.out) (by kernel_rfl) ?_))) | ((with_reducible refine Se.isL (o := ⟨some 76, _, _, _, _, _⟩) ?_); (refine Se.toL rfl (Se.ld (o := ⟨some 76, _, _, _, _, _⟩) hs rfl rfl (Cell.blk 1 rfl R4.out) (by kernel_rfl) ?_))) | ((with_reducible refine Se.isL (o := ⟨some 80, _, _, _, _, _⟩) ?_); (refine Se.toL rfl (Se.bd (o := ⟨some 80, _, _, _, _, _⟩) rfl rfl (BZ.out _) ?_))) | ((with_reducible refine Se.isL (o := ⟨none, _, _, _, _, _⟩) ?_); (refine Se.toL rfl (Se.sow 0 hs rfl rfl rfl rfl (ZO.out) ((by rw [ZL0.out]; kernel_rfl)) (rfl) ?_); clear hs; intro w hs; try simp only [List.cons_append, List.nil_append, List.set_cons_zero] at hs)))
  refine Se.ret hs [.agg RZ0.toArray, .int .i64 2] rfl ⟨Se.resRow rfl (Reads.blk 0 rfl) (by kernel_rfl) (by rw [ZL0.out] <;> kernel_rfl), rfl, trivial⟩ (by simp) rfl ?_
  exact ⟨rfl, hs.drop.drop⟩
theorem ocs_snoc (j : Nat) : ocs (List.replicate j dz) ++ oc dz = ocs (List.replicate (j + 1) dz) := by
 unfold ocs
 rw [List.replicate_succ', List.flatMap_append]
 simp
theorem rnew_yes (hs : St w0 X L w) {c : Cf} (h : okC c.n c.sz c.cap c.mo c.ma = true) :
  Calls Try.prog 16 #[.agg #[iv c.n, iv c.sz, iv c.cap, iv c.mo, iv c.ma]] w fun e w' => True ∧ QR w0 X L (newZ c, 0) e w' := by
 obtain ⟨k, hk⟩ : ∃ n, n = c.n := ⟨_, rfl⟩
 obtain ⟨n, hn⟩ : ∃ n : Int, n = (c.n : Int) := ⟨_, rfl⟩
 obtain ⟨sz, hsz⟩ : ∃ n : Int, n = (c.sz : Int) := ⟨_, rfl⟩
 obtain ⟨cap, hcap⟩ : ∃ n : Int, n = (c.cap : Int) := ⟨_, rfl⟩
 obtain ⟨mo, hmo⟩ : ∃ n : Int, n = (c.mo : Int) := ⟨_, rfl⟩
 obtain ⟨ma, hma⟩ : ∃ n : Int, n = (c.ma : Int) := ⟨_, rfl⟩
 rw [show #[iv c.n, iv c.sz, iv c.cap, iv c.mo, iv c.ma] = #[Value.int .i64 n, .int .i64 sz, .int .i64 cap, .int .i64 mo, .int .i64 ma] by rw [hn, hsz, hcap, hmo, hma]]
 obtain ⟨C, hC⟩ : ∃ C, C = [Value.int .i64 n, .int .i64 sz, .int .i64 cap, .int .i64 mo, .int .i64 ma] := ⟨_, rfl⟩
 have R0 := Lib.hid (show C[0]? = some (.int .i64 n) by rw [hC]; rfl)
 have R1 := Lib.hid (show C[1]? = some (.int .i64 sz) by rw [hC]; rfl)
 have R2 := Lib.hid (show C[2]? = some (.int .i64 cap) by rw [hC]; rfl)
 have R3 := Lib.hid (show C[3]? = some (.int .i64 mo) by rw [hC]; rfl)
 have R4 := Lib.hid (show C[4]? = some (.int .i64 ma) by rw [hC]; rfl)
 have hC2 : #[Value.int .i64 n, .int .i64 sz, .int .i64 cap, .int .i64 mo, .int .i64 ma] = C.toArray := by rw [hC]
 rw [hC2]
 have CL := Lib.hid (show C.length = 5 by rw [hC]; rfl)
 have HCC := Lib.hid (show C = cl c by rw [hC, hn, hsz, hcap, hmo, hma]; rfl)
 have HNK := Lib.hid (show n = (k : Int) by rw [hn, hk])
 rw [← hn, ← hsz, ← hcap, ← hmo, ← hma] at h
 have hkn := hk
 obtain ⟨RZ0, hRZ0⟩ : ∃ R, R = zcl { c := ⟨0, 0, 0, 0, 0⟩, l := [] } none 0 := ⟨_, rfl⟩
 have ZL0 := Lib.hid (show RZ0.length = 7 by rw [hRZ0]; rfl)
 have zRz' := Lib.hid zRz
 rw [← hRZ0] at zRz'
 clear hRZ0
 clear hC hC2 hn hsz hcap hmo hma
 simp only [okC, decide_eq_true_eq] at h
 obtain ⟨N0, hN0⟩ : ∃ N, N = zcl { c := c, l := [] } none 0 := ⟨_, rfl⟩
 have N0L := Lib.hid (show N0.length = 7 by rw [hN0]; rfl)
 have N0O := Lib.hid (show ∀ v ∈ N0, v.oneCell' = true by rw [hN0]; exact zcl_one _ _ _)
 have BZ : Hid (∀ w : World, (Instr.build 43 #[(0, .agg C.toArray)]).run Try.prog w = .ok (.agg N0.toArray) w) := Lib.hid (fun w => by rw [hN0, HCC.out]; kernel_rfl)
 have BO : Hid (∀ w : World, (Instr.build 67 #[(0, iv 1)]).run Try.prog w = .ok (.agg (oc dz).toArray) w) := Lib.hid (fun w => by kernel_rfl)
 have HN0 := Lib.hid hN0
 have HK := Lib.hid hkn
 have hk1 : k ≤ 4096 := by have := HNK.out; omega
 have hk0 : 1 ≤ k := by have := HNK.out; omega
 obtain ⟨O, hO⟩ : ∃ O, O = oc dz := ⟨_, rfl⟩
 have OL := Lib.hid (show O.length = 3 by rw [hO]; rfl)
 have OO := Lib.hid (show ∀ v ∈ O, v.oneCell' = true by rw [hO]; exact oc_one _)
 have HO := Lib.hid hO
 rw [← hO] at BO
 have HH := Lib.hid h
 clear hN0 hkn hk hO h
 go_enter Try.func16, Try.ntmps16
 go_upto_region 1 with (first | ((with_reducible refine Se.isL (o := ⟨some 2, _, _, _, _, _⟩) ?_); (refine Se.toL rfl (Se.al (o := ⟨some 2, _, _, _, _, _⟩) hs rfl (zRz'.out) ?_); clear hs; rintro w g2 - hs)) | ((first | with_reducible refine Se.ab hs ?_ | with_reducible refine Se.abc hs ?_); clear hs; (first | (generalize w.heap.size = g1; intro w hs))))
 refine Gd.plain 55 (fun wx => Blk wx g1 C 24) (fun  | _ => false) rfl (hs.hold (.blk g1 24 C) (by simp)) ?_
 change Ch.CW _ _ _ _ _ [0, 1, 2, 3, 4, 5, 6, 7, 8, 9, 10, 11, 12, 13, 14, 15, 16, 17, 18, 19, 20, 21, 22, 23, 24, 25, 26, 27, 28, 29, 30, 31, 32, 33, 34, 35, 36, 37, 38, 39, 40, 41, 42, 43, 44, 45, 46, 47, 48, 49, 50, 51, 52, 53, 54] _ _
 iterate 55 (refine Gd.look (by rfl) ?_; (first | ((with_reducible refine Gd.isLoad0 ?_); first | (refine Gd.qp (v := _) (by rfl) (by rfl) (fun wx hS => Se.xl (by rfl) (by rfl) (by rw [(hS).cell]; first | exact R0.out | exact R1.out | exact R2.out | exact R3.out | exact R4.out) (by decide +kernel)) ?_)) | ((with_reducible refine Gd.isLoad1 ?_); first | (refine Gd.gp (v := ?_) (by rfl) (by first | exact Gd.want_t rfl rfl rfl | exact Gd.want_f rfl rfl rfl | exact Gd.want_mt rfl rfl rfl | exact Gd.want_mf rfl rfl rfl) ?_ ?_; rotate_left; (focus ((intro hb; have hb0 := hb; (try simp only [Bool.and_eq_true] at hb)); intro wx hS; exact Se.xl (by rfl) (by exact Gd.mv_of hb0) (by rw [(hS).cell]; first | exact R0.out | exact R1.out | exact R2.out | exact R3.out | exact R4.out) (by decide +kernel)))) | (refine Gd.gp (v := ?_) (by rfl) (by first | exact Gd.want_t rfl rfl rfl | exact Gd.want_f rfl rfl rfl | exact Gd.want_mt rfl rfl rfl | exact Gd.want_mf rfl rfl rfl) ?_ ?_; rotate_left; (focus ((intro hb; have hb0 := hb; (try simp only [Bool.and_eq_true] at hb)); intro wx hS; exact Se.xl (by rfl) (by rfl) (by rw [(hS).cell]; first | exact R0.out | exact R1.out | exact R2.out | exact R3.out | exact R4.out) (by decide +kernel))))) | ((with_reducible refine Gd.isPick0 ?_); refine Gd.qpick (b := _) (v := ?_) (e := ?_) (by rfl) (by rfl) (by rfl) (by rfl) ?_ ?_ ?_; rotate_left 2; (focus (go_simp; (first | done | with_reducible rfl))); (focus (with_reducible rfl)); (intro _ _)) | ((with_reducible refine Gd.isPick1 ?_); refine Gd.gpick (b := ?_) (v := ?_) (e := ?_) (by rfl) (by rfl) (by first | exact Gd.want_t rfl rfl rfl | exact Gd.want_f rfl rfl rfl | exact Gd.want_mt rfl rfl rfl | exact Gd.want_mf rfl rfl rfl) ?_ ?_ ?_; rotate_left 3; (focus ((intro hb; have hb0 := hb; (try simp only [Bool.and_eq_true] at hb)); refine ⟨?_, ?_⟩ <;> (go_simp; (first | done | with_reducible rfl)))); (focus (with_reducible rfl)); (intro _ _)) | ((with_reducible refine Gd.isBin0 (ty := 4) ?_); refine Gd.qb (v := ?_) (e := ?_) (by rfl) (by rfl) (fun wx hS => ?_) ?_ ?_; rotate_left 2; (focus (go_simp; (first | done | with_reducible rfl))); (focus (with_reducible rfl)); (intro _ _)) | ((with_reducible refine Gd.isUn0 (ty := 4) ?_); refine Gd.qb (v := ?_) (e := ?_) (by rfl) (by rfl) (fun wx hS => ?_) ?_ ?_; rotate_left 2; (focus (go_simp; (first | done | with_reducible rfl))); (focus (with_reducible rfl)); (intro _ _)) | ((with_reducible refine Gd.isBin1 (ty := 4) ?_); refine Gd.gb (v := ?_) (e := ?_) (by rfl) (by first | exact Gd.want_t rfl rfl rfl | exact Gd.want_f rfl rfl rfl | exact Gd.want_mt rfl rfl rfl | exact Gd.want_mf rfl rfl rfl) ?_ ?_ ?_; rotate_left 2; (focus ((intro hb; have hb0 := hb; (try simp only [Bool.and_eq_true] at hb)); intro wx hS; go_simp; (first | done | with_reducible rfl))); (focus (with_reducible rfl)); (intro _ _)) | ((with_reducible refine Gd.isUn1 (ty := 4) ?_); refine Gd.gb (v := ?_) (e := ?_) (by rfl) (by first | exact Gd.want_t rfl rfl rfl | exact Gd.want_f rfl rfl rfl | exact Gd.want_mt rfl rfl rfl | exact Gd.want_mf rfl rfl rfl) ?_ ?_ ?_; rotate_left 2; (focus ((intro hb; have hb0 := hb; (try simp only [Bool.and_eq_true] at hb)); intro wx hS; go_simp; (first | done | with_reducible rfl))); (focus (with_reducible rfl)); (intro _ _)) | ((with_reducible refine Gd.is0 ?_); refine Gd.qp (v := ?_) (by rfl) (by rfl) (fun wx hS => ?_) ?_; rotate_left; (focus (go_simp; (first | done | with_reducible rfl)))) | ((with_reducible refine Gd.is1 ?_); refine Gd.gp (v := ?_) (by rfl) (by first | exact Gd.want_t rfl rfl rfl | exact Gd.want_f rfl rfl rfl | exact Gd.want_mt rfl rfl rfl | exact Gd.want_mf rfl rfl rfl) ?_ ?_; rotate_left; (focus ((intro hb; have hb0 := hb; (try simp only [Bool.and_eq_true] at hb)); intro wx hS; go_simp; (first | done | with_reducible rfl))))); (try simp only [Act.put, List.setIfInBounds_toArray, List.set_cons_zero, List.set_cons_succ]))
 refine Ch.done ?_
 rename_i cb hc
 have hb : (decide (1 ≤ n) && decide (n ≤ 4096) && decide (1 ≤ sz) && decide (sz ≤ 65536) && decide (1 ≤ cap) && decide (cap ≤ sz) && decide (0 ≤ mo) && decide (mo ≤ n) && decide (0 ≤ ma) && decide (ma ≤ n)) = cb := and10 hc (by assumption) (by assumption) (by assumption) (by assumption) (by assumption) (by assumption) (by assumption) (by assumption) (by assumption) (by assumption) (by assumption) (by assumption) (by assumption) (by assumption) (by assumption) (by assumption) (by assumption) (by assumption)
 obtain rfl : cb = true := by
  rw [← hb]
  simp only [Bool.and_eq_true, decide_eq_true_eq]
  have := HH.out
  omega
 clear hb hc
 go_upto_region 2 with (fail)
 go_cut [79] (fun s79 wx => s79 = .bool false ∧ St w0 X (.blk g2 43 RZ0 :: .blk g1 24 C :: L) wx)
 case first =>
  by_cases h1 : 0 < mo
  ·have f1 : decide (0 < mo) = true := by simpa using h1
   by_cases h2 : 0 < ma
   ·have f2 : decide (0 < ma) = true := by simpa using h2
    have f3 : decide (ma < mo) = false := by have := HH.out; simp; omega
    clear h1 h2
    go_wp2_with (first | ((with_reducible refine Se.isL (o := ⟨some 65, _, _, _, _, _⟩) ?_); (refine Se.toL rfl (Se.ld (o := ⟨some 65, _, _, _, _, _⟩) hs rfl rfl (Cell.blk 1 rfl R3.out) (by kernel_rfl) ?_))) | ((with_reducible refine Se.isL (o := ⟨some 69, _, _, _, _, _⟩) ?_); (refine Se.toL rfl (Se.ld (o := ⟨some 69, _, _, _, _, _⟩) hs rfl rfl (Cell.blk 1 rfl R4.out) (by kernel_rfl) ?_))) | ((with_reducible refine Se.isL (o := ⟨some 74, _, _, _, _, _⟩) ?_); (refine Se.toL rfl (Se.ld (o := ⟨some 74, _, _, _, _, _⟩) hs rfl rfl (Cell.blk 1 rfl R3.out) (by kernel_rfl) ?_))) | ((with_reducible refine Se.isL (o := ⟨some 76, _, _, _, _, _⟩) ?_); (refine Se.toL rfl (Se.ld (o := ⟨some 76, _, _, _, _, _⟩) hs rfl rfl (Cell.blk 1 rfl R4.out) (by kernel_rfl) ?_))))
    go_meet
    exact ⟨rfl, hs⟩
   ·have f2 : decide (0 < ma) = false := by simpa using h2
    clear h1 h2
    go_wp2_with (first | ((with_reducible refine Se.isL (o := ⟨some 65, _, _, _, _, _⟩) ?_); (refine Se.toL rfl (Se.ld (o := ⟨some 65, _, _, _, _, _⟩) hs rfl rfl (Cell.blk 1 rfl R3.out) (by kernel_rfl) ?_))) | ((with_reducible refine Se.isL (o := ⟨some 69, _, _, _, _, _⟩) ?_); (refine Se.toL rfl (Se.ld (o := ⟨some 69, _, _, _, _, _⟩) hs rfl rfl (Cell.blk 1 rfl R4.out) (by kernel_rfl) ?_))))
    go_meet
    exact ⟨rfl, hs⟩
  ·have f1 : decide (0 < mo) = false := by simpa using h1
   clear h1
   go_wp2_with (first | ((with_reducible refine Se.isL (o := ⟨some 65, _, _, _, _, _⟩) ?_); (refine Se.toL rfl (Se.ld (o := ⟨some 65, _, _, _, _, _⟩) hs rfl rfl (Cell.blk 1 rfl R3.out) (by kernel_rfl) ?_))))
   go_meet
   exact ⟨rfl, hs⟩
 case rest =>
 clear hs
 rename World => w
 obtain ⟨rfl, hs⟩ := hcut
 clear HH R1 R2 R3 R4
 go_upto_region 5 with (first | ((with_reducible refine Se.isL (o := ⟨some 81, _, _, _, _, _⟩) ?_); (refine Se.toL rfl (Se.ldw (o := ⟨some 81, _, _, _, _, _⟩) hs rfl rfl ((Reads.blk 1 rfl)) ((by rw [CL.out]; kernel_rfl)) (by kernel_rfl) ?_))) | ((with_reducible refine Se.isL (o := ⟨some 82, _, _, _, _, _⟩) ?_); (refine Se.toL rfl (Se.bd (o := ⟨some 82, _, _, _, _, _⟩) rfl rfl (BZ.out _) ?_))) | ((with_reducible refine Se.isL (o := ⟨some 5, _, _, _, _, _⟩) ?_); (refine Se.toL rfl (Se.al (o := ⟨some 5, _, _, _, _, _⟩) hs rfl (zRz'.out) ?_); clear hs; rintro w g5 - hs)) | ((with_reducible refine Se.isL (o := ⟨none, Op.store 43 _ _, _, _, _, _⟩) ?_); (refine Se.toL rfl (Se.sow 0 hs rfl rfl rfl rfl (N0O.out) ((by rw [N0L.out]; kernel_rfl)) ((by rw [N0L.out, ZL0.out])) ?_); clear hs; intro w hs; try simp only [List.cons_append, List.nil_append, List.set_cons_zero] at hs)))
 replace hs := hs.nil_own 3 none
 rw [HNK.out] at R0
 have ZJ : Hid (∃ f : Nat → Option Addr → Nat → List Value, f = fun j B c' => zcl { c := c, l := List.replicate j dz } B c') := Lib.hid ⟨_, rfl⟩
 obtain ⟨ZF, hZF⟩ := ZJ.out
 have F0 : N0 = ZF 0 none 0 := by rw [HN0.out, hZF]; rfl
 rw [F0] at hs
 have FL : Hid (∀ j B c', (ZF j B c').length = 7) := Lib.hid (by intro j B c'; rw [hZF]; rfl)
 have F5 : Hid (∀ j B c', (ZF j B c')[5]? = some (.slice B j c')) := Lib.hid (by intro j B c'; rw [hZF]; simp [zcl, cl])
 have FS : Hid (∀ j B c' j2 B2 c2, j2 = j + 1 → (ZF j B c').set 5 (.slice B2 (j + 1) c2) = ZF j2 B2 c2) := Lib.hid (by intro j B c' j2 B2 c2 h; rw [hZF, h]; simp [zcl, cl])
 have FZ : Hid (∀ j B c', RZ { c := c, l := List.replicate j dz } B (ZF j B c')) := Lib.hid (by intro j B c'; rw [hZF]; exact ⟨c', rfl⟩)
 have FE := Lib.hid (show newZ c = { c := c, l := List.replicate k dz } by rw [HK.out]; rfl)
 clear F0 hZF ZJ HN0 BZ N0L N0O HCC
 go_wp2_with fail
 go_loopg [6] k (fun gh s6 wr => ∃ (j : Nat) (r : Option Nat) (B : Option Addr) (c' : Nat), gh = k - j ∧ j ≤ k ∧ s6 = .int .i64 (j : Int) ∧ St w0 X (.own 3 r B j c' (ocs (List.replicate j dz)) :: .blk g5 43 (ZF j B c') :: .blk g2 43 RZ0 :: .blk g1 24 C :: L) wr)
 case atStart => exact ⟨0, none, none, 0, rfl, Nat.zero_le _, rfl, hs⟩
 case round =>
  clear hs
  rename World => w
  obtain ⟨j, r, B, c', rfl, hj, rfl, hs⟩ := hrel
  by_cases hlt : j < k
  ·have hlt' : (j : Int) < (k : Int) := by omega
   have hoj := Lib.hid (show (ocs (List.replicate j dz)).length = j * 3 by rw [ocs_len, List.length_replicate])
   have HSN := Lib.hid (show ocs (List.replicate j dz) ++ O = ocs (List.replicate (j + 1) dz) by rw [HO.out]; exact ocs_snoc j)
   obtain ⟨OJ, hOJ⟩ : ∃ O, O = ocs (List.replicate j dz) := ⟨_, rfl⟩
   rw [← hOJ] at hs hoj HSN
   clear hOJ
   go_wp2_with (first | ((with_reducible refine Se.isL (o := ⟨some 85, _, _, _, _, _⟩) ?_); (refine Se.toL rfl (Se.ld (o := ⟨some 85, _, _, _, _, _⟩) hs rfl rfl (Cell.blk 3 rfl R0.out) (by kernel_rfl) ?_))) | ((with_reducible refine Se.isL (o := ⟨some 90, _, _, _, _, _⟩) ?_); (refine Se.toL rfl (Se.ld (o := ⟨some 90, _, _, _, _, _⟩) hs rfl rfl (Cell.blk 1 rfl (F5.out _ _ _)) (by kernel_rfl) ?_))) | ((with_reducible refine Se.isL (o := ⟨some 91, _, _, _, _, _⟩) ?_); (refine Se.toL rfl (Se.bd (o := ⟨some 91, _, _, _, _, _⟩) rfl rfl (BO.out _) ?_))) | ((with_reducible refine Se.isL (o := ⟨some 92, _, _, _, _, _⟩) ?_); (refine Se.toL rfl (Se.bs1 (o := ⟨some 92, _, _, _, _, _⟩) hs rfl Try.underlying41 rone_i (by decide) (by decide) rfl (OL.out) ?_); clear hs; rintro w g92 - hs)) | ((with_reducible refine Se.isL (o := ⟨some 93, _, _, _, _, _⟩) ?_); (refine Se.toL rfl (Se.ap (o := ⟨some 93, _, _, _, _, _⟩) 1 hs rfl rfl rfl rfl ((Reads.blk 0 rfl)) Try.underlying41 rone_i (one_z) (by decide) (OO.out) ((by rw [OL.out])) ((by omega)) ((by omega)) ?_); clear hs; rintro w r' B' c2 hs; try simp only [List.cons_append, List.nil_append, List.set_cons_zero, List.set_cons_succ] at hs; try simp only [Nat.zero_add, List.nil_append] at hs; try simp only [Nat.zero_add])) | ((with_reducible refine Se.isL (o := ⟨none, _, _, _, _, _⟩) ?_); ((first | refine Se.toL rfl (Se.so 2 (v := .int _ _) hs rfl rfl rfl rfl rfl (by kernel_rfl) (by rw [FL.out]; decide) ?_) | refine Se.toL rfl (Se.so 2 (v := .bool _) hs rfl rfl rfl rfl rfl (by kernel_rfl) (by rw [FL.out]; decide) ?_) | refine Se.toL rfl (Se.so 2 (v := .slice _ _ _) hs rfl rfl rfl rfl rfl (by kernel_rfl) (by rw [FL.out]; decide) ?_) | refine Se.toL rfl (Se.so 2 (v := .pointer _) hs rfl rfl rfl rfl rfl (by kernel_rfl) (by rw [FL.out]; decide) ?_) | refine Se.toL rfl (Se.so 2 (v := .string _) hs rfl rfl rfl rfl rfl (by kernel_rfl) (by rw [FL.out]; decide) ?_) | refine Se.toL rfl (Se.so 2 (v := .map _) hs rfl rfl rfl rfl rfl (by kernel_rfl) (by rw [FL.out]; decide) ?_) | refine Se.toL rfl (Se.so 2 (v := .func _ _ _) hs rfl rfl rfl rfl rfl (by kernel_rfl) (by rw [FL.out]; decide) ?_) | refine Se.toL rfl (Se.so 2 (v := .nilFunc) hs rfl rfl rfl rfl rfl (by kernel_rfl) (by rw [FL.out]; decide) ?_)); clear hs; intro w hs; try simp only [List.cons_append, List.nil_append, List.set_cons_zero, List.set_cons_succ] at hs)))
   go_roundg (k - (j + 1))
   case measure => omega
   case rel =>
    refine ⟨j + 1, r', B', c2, rfl, by omega, by go_num, ?_⟩
    have h2 := hs.drop
    rw [HSN.out, FS.out j B c' (j + 1) B' c2 rfl] at h2
    exact h2
  ·obtain rfl : j = k := by omega
   have NL := Lib.hid (FL.out j B c')
   have NO := Lib.hid (FZ.out j B c').one
   have HF := Lib.hid (FZ.out j B c')
   rw [← FE.out] at HF
   obtain ⟨ZN, hZN⟩ : ∃ Z, Z = ZF j B c' := ⟨_, rfl⟩
   have N5 := Lib.hid (F5.out j B c')
   rw [← hZN] at NL NO HF hs N5
   clear hZN FL F5 FS FZ BO HO
   go_wp2_with (first | ((with_reducible refine Se.isL (o := ⟨some 85, _, _, _, _, _⟩) ?_); (refine Se.toL rfl (Se.ld (o := ⟨some 85, _, _, _, _, _⟩) hs rfl rfl (Cell.blk 3 rfl R0.out) (by kernel_rfl) ?_))) | ((with_reducible refine Se.isL (o := ⟨some 95, _, _, _, _, _⟩) ?_); (refine Se.toL rfl (Se.ldw (o := ⟨some 95, _, _, _, _, _⟩) hs rfl rfl ((Reads.blk 1 rfl)) ((by rw [NL.out]; kernel_rfl)) (by kernel_rfl) ?_))) | ((with_reducible refine Se.isL (o := ⟨none, Op.store 43 _ _, _, _, _, _⟩) ?_); (refine Se.toL rfl (Se.sow 2 hs rfl rfl rfl rfl (NO.out) ((by rw [NL.out]; kernel_rfl)) ((by rw [NL.out, ZL0.out])) ?_); clear hs; intro w hs; try simp only [List.cons_append, List.nil_append, List.set_cons_zero, List.set_cons_succ] at hs)))
   refine Se.ret hs [.agg ZN.toArray, .int .i64 0] rfl ⟨Se.resRow rfl (Reads.blk 2 rfl) (by kernel_rfl) (by rw [NL.out] <;> kernel_rfl), rfl, trivial⟩ (by simp) rfl ?_
   refine ⟨trivial, B, ZN, rfl, HF.out, ?_⟩
   rw [FE.out]
   exact (hs.sub (List.Sublist.cons_cons _ (.cons _ (.cons _ (.cons _ (List.Sublist.refl _)))))).own_rd
end Zo
end Go.Proofs.Ythpgkkfahiglnaa


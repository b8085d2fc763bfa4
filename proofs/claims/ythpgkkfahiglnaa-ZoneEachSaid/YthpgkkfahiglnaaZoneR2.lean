/- Layer 28's reference: opens. No condition but Go's own limits. Printed by wip/gen_zoner2.py. -/
import Derived.Test.YthpgkkfahiglnaaZoneR1
set_option maxRecDepth 100000
set_option maxHeartbeats 4000000
set_option linter.unusedSimpArgs false
set_option linter.unusedVariables false
namespace Go.Proofs.Ythpgkkfahiglnaa
open Go Go.RowKit
namespace Zo
open Se (St At Reads Cell)
open Li (Rd Blk Fr)
variable {w0 w : World} {X : List Nat} {L : List At}
attribute [local irreducible] Calls
attribute [local go_sem] eql_nil Gd.mv_true Gd.pk_or Gd.pk_and Gd.pk_true Gd.pk_false
def RZ (z : Zs) (A : Option Addr) (ZL : List Value) : Prop := ∃ c, ZL = zcl z A c
theorem RZ.len {z : Zs} {A : Option Addr} {ZL : List Value} (h : RZ z A ZL) : ZL.length = 7 := by obtain ⟨c, rfl⟩ := h; rfl
theorem RZ.one {z : Zs} {A : Option Addr} {ZL : List Value} (h : RZ z A ZL) : ∀ v ∈ ZL, v.oneCell' = true := by obtain ⟨c, rfl⟩ := h; exact zcl_one _ _ _
def QR (w0 : World) (X : List Nat) (L : List At) (q : Zs × Nat) (e : Ending) (w' : World) : Prop :=
 ∃ A' ZL, e = .returned (.tuple #[.agg ZL.toArray, iv q.2]) ∧ RZ q.1 A' ZL ∧ St w0 X (.rd A' (ocs q.1.l) :: L) w'
def Q1 (w0 : World) (X : List Nat) (L : List At) (q : Zs) (e : Ending) (w' : World) : Prop :=
 ∃ A' ZL, e = .returned (.agg ZL.toArray) ∧ RZ q A' ZL ∧ St w0 X (.rd A' (ocs q.l) :: L) w'
theorem QR.drop {q : Zs × Nat} {e : Ending} {M : List At} (h : QR w0 X (M ++ L) q e w) : QR w0 X L q e w := by
 obtain ⟨A', ZL, h1, h2, h3⟩ := h
 exact ⟨A', ZL, h1, h2, h3.sub (List.Sublist.cons_cons _ (List.sublist_append_right _ _))⟩
theorem rset' {z : Zs} {A : Option Addr} {ZI : List Value} (hs : St w0 X L w) (hm : At.rd A (ocs z.l) ∈ L) (ho : OkZ z) (hz : RZ z A ZI) {i : Nat} (hi : i < z.l.length) (x : Zn) :
  Calls Try.prog 84 #[.agg ZI.toArray, .int .i64 (i : Int), .agg (oc x).toArray] w fun e w' => Q1 w0 X L (putS z i x) e w' := by
 obtain ⟨cc, rfl⟩ := hz
 refine (rset_st hs hm ho hi x).mono ?_
 rintro e w ⟨A', c', h1, h2⟩
 exact ⟨A', _, h1, ⟨c', rfl⟩, h2⟩
theorem rcount' {z : Zs} {A : Option Addr} {ZI : List Value} (hs : St w0 X L w) (hm : At.rd A (ocs z.l) ∈ L) (ho : OkZ z) (hz : RZ z A ZI) :
  Calls Try.prog 46 #[.agg ZI.toArray] w fun e w' => e = .returned (.tuple #[iv (cntO z.l), iv (cntA z.l)]) ∧ St w0 X L w' := by
 obtain ⟨cc, rfl⟩ := hz
 exact rcount_st hs hm ho
theorem memM {a : At} {L : List At} (h : a ∈ L) (M : List At) : a ∈ M ++ L := List.mem_append.2 (.inr h)
theorem and3c {c a1 a2 a3 c4 c3 c2 c1 : Bool} (h5 : Hid (c = (c2 && c1))) (h4 : Hid (c2 = (c4 && c3))) (h3 : Hid (c4 = a1)) (h2 : Hid (c3 = a2)) (h1 : Hid (c1 = a3)) : (a1 && a2 && a3) = c := by rw [h5.out, h4.out, h3.out, h2.out, h1.out]
theorem or2c {c a1 a2 c2 c1 : Bool} (h3 : Hid (c = (c2 || c1))) (h2 : Hid (c2 = a1)) (h1 : Hid (c1 = a2)) : (a1 || a2) = c := by rw [h3.out, h2.out, h1.out]
theorem and2c {c a1 a2 c2 c1 : Bool} (h3 : Hid (c = (c2 && c1))) (h2 : Hid (c2 = a1)) (h1 : Hid (c1 = a2)) : (a1 && a2) = c := by rw [h3.out, h2.out, h1.out]
theorem ropens_st {z : Zs} {A : Option Addr} {ZI : List Value} (hs : St w0 X L w) (hm : At.rd A (ocs z.l) ∈ L) (ho : OkZ z) (hz : RZ z A ZI) {i : Nat} (hi : i < z.l.length) :
  Calls Try.prog 83 #[.agg ZI.toArray, .int .i64 (i : Int)] w fun e w' => True ∧ QR w0 X L (opensE z i) e w' := by
 obtain ⟨cc, hRZ⟩ := hz
 obtain ⟨ga, oa, rfl, _, _⟩ := (hs.hold _ hm).cells (ocs_ne (by rw [ho.1]; exact ho.2.1))
 obtain ⟨RL, hRL⟩ : ∃ RL, RL = ZI := ⟨_, rfl⟩
 rw [← hRL]
 rw [hRZ] at hRL
 obtain ⟨k, hk⟩ : ∃ n, n = z.l.length := ⟨_, rfl⟩
 have hk1 : k ≤ 4096 := by rw [hk, ho.1]; exact ho.2.2.1
 have hk0 : 1 ≤ k := by rw [hk, ho.1]; exact ho.2.1
 have RLL := Lib.hid (show RL.length = 7 by rw [hRL]; rfl)
 have RLO := Lib.hid (show ∀ v ∈ RL, v.oneCell' = true by rw [hRL]; exact zcl_one _ _ _)
 have R5 := Lib.hid (show RL[5]? = some (.slice (some ⟨ga, oa, none⟩) k cc) by rw [hRL, hk]; rfl)
 obtain ⟨mo, hmo⟩ : ∃ n, n = z.c.mo := ⟨_, rfl⟩
 have R3 := Lib.hid (show RL[3]? = some (iv mo) by rw [hRL, hmo]; rfl)
 obtain ⟨ma, hma⟩ : ∃ n, n = z.c.ma := ⟨_, rfl⟩
 have R4 := Lib.hid (show RL[4]? = some (iv ma) by rw [hRL, hma]; rfl)
 obtain ⟨l, hl⟩ : ∃ l, l = z.l := ⟨_, rfl⟩
 obtain ⟨x, hx⟩ : ∃ x, x = l.getD i dz := ⟨_, rfl⟩
 obtain ⟨st, hst⟩ : ∃ p, p = x.st := ⟨_, rfl⟩
 obtain ⟨p, hp⟩ : ∃ p, p = x.p := ⟨_, rfl⟩
 have hil : i < l.length := by rw [hl]; exact hi
 have hmr : Reads L (some ⟨ga, oa, none⟩) (ocs l) := by rw [hl]; exact Reads.rdm hm
 have C0 := Lib.hid (show Cell L ga (oa + i * 3) (iv st) from rcell hmr hil 0 (by decide) (by rw [hst, hx]; rfl))
 have C1 := Lib.hid (show Cell L ga (oa + i * 3 + 1) (iv p) from rcell hmr hil 1 (by decide) (by rw [hp, hx]; rfl))
 have HRX := Lib.hid (show Reads L (some ⟨ga, oa + i * 3, none⟩) (oc x) by rw [hx, getD_get hil]; exact row_at hmr hil)
 have hik : (i : Int) < (k : Int) := by rw [hk]; omega
 obtain ⟨na, hna⟩ : ∃ n, n = cntA z.l := ⟨_, rfl⟩
 obtain ⟨no, hno⟩ : ∃ n, n = cntO z.l := ⟨_, rfl⟩
 have q1 : (st = 1 ∧ 0 < ma ∧ ma ≤ na) = ((z.l.getD i dz).st = 1 ∧ 0 < z.c.ma ∧ z.c.ma ≤ cntA z.l) := by rw [hst, hx, hma, hna, hl]
 have q2 : (mo = 0 ∨ no < mo) = (z.c.mo = 0 ∨ cntO z.l < z.c.mo) := by rw [hmo, hno]
 have hzr : RZ z (some ⟨ga, oa, none⟩) RL := ⟨cc, hRL⟩
 have CCN : Hid (∀ (M : List At) (w : World), St w0 X (M ++ L) w → Calls Try.prog 46 #[.agg RL.toArray] w fun e w' => e = .returned (.tuple #[iv no, iv na]) ∧ St w0 X (M ++ L) w') := Lib.hid (fun M w hs => by
  rw [hno, hna]; exact rcount' hs (memM hm M) ho hzr)
 have SAME : Hid (∀ c, opensE z i = (z, c) → ∀ w, St w0 X L w → QR w0 X L (opensE z i) (.returned (.tuple #[.agg RL.toArray, iv c])) w) := Lib.hid (fun c he w hs => by
  rw [he]
  exact ⟨_, _, rfl, hzr, hs.dup hm⟩)
 have CSE : Hid (∀ m, m < k → ∀ (M : List At) (w : World), St w0 X (M ++ L) w → Calls Try.prog 84 #[.agg RL.toArray, .int .i64 (m : Int), .agg (oc { l.getD m dz with st := 4 }).toArray] w fun e w' => Q1 w0 X (M ++ L) (putS z m { l.getD m dz with st := 4 }) e w') := Lib.hid (fun m hmk M w hs => rset' hs (memM hm M) ho hzr (by rw [← hk]; exact hmk) _)
 have B189 : Hid ((st = 1 ∧ 0 < ma ∧ ma ≤ na) → opensE z i = (z, 189)) := Lib.hid (fun h => opensE_189 (by rw [← q1]; exact h))
 have NOW : Hid (¬ (st = 1 ∧ 0 < ma ∧ ma ≤ na) → (mo = 0 ∨ no < mo) → opensE z i = (z, 0)) := Lib.hid (fun h h2 => opensE_now (by rw [← q1]; exact h) (by rw [← q2]; exact h2))
 have B190 : Hid (¬ (st = 1 ∧ 0 < ma ∧ ma ≤ na) → ¬ (mo = 0 ∨ no < mo) → leastN l k = none → opensE z i = (z, 190)) := Lib.hid (fun h h2 h3 => opensE_190 (by rw [← q1]; exact h) (by rw [← q2]; exact h2) (by rw [← hl, ← h3, hk, hl]))
 have LEA : Hid (¬ (st = 1 ∧ 0 < ma ∧ ma ≤ na) → ¬ (mo = 0 ∨ no < mo) → ∀ m, leastN l k = some m → opensE z i = (putS z m { l.getD m dz with st := 4 }, 0)) := Lib.hid (fun h h2 m h3 => by
  rw [opensE_least (by rw [← q1]; exact h) (by rw [← q2]; exact h2) (show leastN z.l z.l.length = some m by rw [← hl, ← h3, hk, hl]), hl]
  rfl)
 have HKL := Lib.hid (show l.length = k by rw [hl, hk])
 have HMR := Lib.hid hmr
 have ZL0 := Lib.hid (show (zcl { c := ⟨0, 0, 0, 0, 0⟩, l := [] } none 0).length = 7 from rfl)
 have Z3 := Lib.hid (show (oc { st := 0 }).length = 3 from rfl)
 have HMM := Lib.hid hm
 clear hRL hRZ hk hmo hma hna hno hl hst hp hx hil hmr ho hi q1 q2 hzr hm
 go_enter Try.func83, Try.ntmps83
 go_upto_region 2 with (first | ((with_reducible refine Se.isL (o := ⟨some 4, _, _, _, _, _⟩) ?_); (refine Se.toL rfl (Se.al (o := ⟨some 4, _, _, _, _, _⟩) hs rfl (zRz) ?_); clear hs; rintro w g4 - hs)) | ((with_reducible refine Se.isL (o := ⟨some 12, _, _, _, _, _⟩) ?_); (refine Se.toL rfl (Se.ldw (o := ⟨some 12, _, _, _, _, _⟩) hs rfl rfl ((Reads.blk 1 rfl)) ((by rw [RLL.out]; kernel_rfl)) (by kernel_rfl) ?_))) | ((first | with_reducible refine Se.ab hs ?_ | with_reducible refine Se.abc hs ?_); clear hs; (first | (generalize w.heap.size = g2; intro w hs))) | (go_at_call 46; refine Calls.mono (CCN.out [_, _] _ hs) ?_; clear hs; rintro e w ⟨rfl, hs⟩))
 refine Gd.plain 20 (fun wx => Blk wx g2 RL 43 ∧ wx.cell? ⟨ga, oa + i * 3, none⟩ = some (iv st)) (fun  | _ => false) rfl (⟨hs.hold (.blk g2 43 RL) (by simp), (capp [_, _] C0.out) _ hs.hold⟩) ?_
 change Ch.CW _ _ _ _ _ [0, 1, 2, 3, 4, 5, 6, 7, 8, 9, 10, 11, 12, 13, 14, 15, 16, 17, 18, 19] _ _
 iterate 20 (refine Gd.look (by rfl) ?_; (first | ((with_reducible refine Gd.isLoad0 ?_); first | (refine Gd.qp (v := _) (by rfl) (by rfl) (fun wx hS => Se.xl (by rfl) (by rfl) hS.2 (by decide +kernel)) ?_) | (refine Gd.qp (v := _) (by rfl) (by rfl) (fun wx hS => Se.xl (by rfl) (by rfl) (by rw [(hS.1).cell]; first | exact R5.out | exact R4.out) (by decide +kernel)) ?_)) | ((with_reducible refine Gd.isLoad1 ?_); first | (refine Gd.gp (v := ?_) (by rfl) (by first | exact Gd.want_t rfl rfl rfl | exact Gd.want_f rfl rfl rfl | exact Gd.want_mt rfl rfl rfl | exact Gd.want_mf rfl rfl rfl) ?_ ?_; rotate_left; (focus ((intro hb; have hb0 := hb; (try simp only [Bool.and_eq_true] at hb)); intro wx hS; exact Se.xl (by rfl) (by rfl) hS.2 (by decide +kernel)))) | (refine Gd.gp (v := ?_) (by rfl) (by first | exact Gd.want_t rfl rfl rfl | exact Gd.want_f rfl rfl rfl | exact Gd.want_mt rfl rfl rfl | exact Gd.want_mf rfl rfl rfl) ?_ ?_; rotate_left; (focus ((intro hb; have hb0 := hb; (try simp only [Bool.and_eq_true] at hb)); intro wx hS; exact Se.xl (by rfl) (by exact Gd.mv_of hb0) (by rw [(hS.1).cell]; first | exact R5.out | exact R4.out) (by decide +kernel)))) | (refine Gd.gp (v := ?_) (by rfl) (by first | exact Gd.want_t rfl rfl rfl | exact Gd.want_f rfl rfl rfl | exact Gd.want_mt rfl rfl rfl | exact Gd.want_mf rfl rfl rfl) ?_ ?_; rotate_left; (focus ((intro hb; have hb0 := hb; (try simp only [Bool.and_eq_true] at hb)); intro wx hS; exact Se.xl (by rfl) (by rfl) (by rw [(hS.1).cell]; first | exact R5.out | exact R4.out) (by decide +kernel))))) | ((with_reducible refine Gd.isPick0 ?_); refine Gd.qpick (b := _) (v := ?_) (e := ?_) (by rfl) (by rfl) (by rfl) (by rfl) ?_ ?_ ?_; rotate_left 2; (focus (go_simp; (first | done | with_reducible rfl))); (focus (with_reducible rfl)); (intro _ _)) | ((with_reducible refine Gd.isPick1 ?_); refine Gd.gpick (b := ?_) (v := ?_) (e := ?_) (by rfl) (by rfl) (by first | exact Gd.want_t rfl rfl rfl | exact Gd.want_f rfl rfl rfl | exact Gd.want_mt rfl rfl rfl | exact Gd.want_mf rfl rfl rfl) ?_ ?_ ?_; rotate_left 3; (focus ((intro hb; have hb0 := hb; (try simp only [Bool.and_eq_true] at hb)); refine ⟨?_, ?_⟩ <;> (go_simp; (first | done | with_reducible rfl)))); (focus (with_reducible rfl)); (intro _ _)) | ((with_reducible refine Gd.isBin0 (ty := 4) ?_); refine Gd.qb (v := ?_) (e := ?_) (by rfl) (by rfl) (fun wx hS => ?_) ?_ ?_; rotate_left 2; (focus (go_simp; (first | done | with_reducible rfl))); (focus (with_reducible rfl)); (intro _ _)) | ((with_reducible refine Gd.isUn0 (ty := 4) ?_); refine Gd.qb (v := ?_) (e := ?_) (by rfl) (by rfl) (fun wx hS => ?_) ?_ ?_; rotate_left 2; (focus (go_simp; (first | done | with_reducible rfl))); (focus (with_reducible rfl)); (intro _ _)) | ((with_reducible refine Gd.isBin1 (ty := 4) ?_); refine Gd.gb (v := ?_) (e := ?_) (by rfl) (by first | exact Gd.want_t rfl rfl rfl | exact Gd.want_f rfl rfl rfl | exact Gd.want_mt rfl rfl rfl | exact Gd.want_mf rfl rfl rfl) ?_ ?_ ?_; rotate_left 2; (focus ((intro hb; have hb0 := hb; (try simp only [Bool.and_eq_true] at hb)); intro wx hS; go_simp; (first | done | with_reducible rfl))); (focus (with_reducible rfl)); (intro _ _)) | ((with_reducible refine Gd.isUn1 (ty := 4) ?_); refine Gd.gb (v := ?_) (e := ?_) (by rfl) (by first | exact Gd.want_t rfl rfl rfl | exact Gd.want_f rfl rfl rfl | exact Gd.want_mt rfl rfl rfl | exact Gd.want_mf rfl rfl rfl) ?_ ?_ ?_; rotate_left 2; (focus ((intro hb; have hb0 := hb; (try simp only [Bool.and_eq_true] at hb)); intro wx hS; go_simp; (first | done | with_reducible rfl))); (focus (with_reducible rfl)); (intro _ _)) | ((with_reducible refine Gd.is0 ?_); refine Gd.qp (v := ?_) (by rfl) (by rfl) (fun wx hS => ?_) ?_; rotate_left; (focus (go_simp; (first | done | with_reducible rfl)))) | ((with_reducible refine Gd.is1 ?_); refine Gd.gp (v := ?_) (by rfl) (by first | exact Gd.want_t rfl rfl rfl | exact Gd.want_f rfl rfl rfl | exact Gd.want_mt rfl rfl rfl | exact Gd.want_mf rfl rfl rfl) ?_ ?_; rotate_left; (focus ((intro hb; have hb0 := hb; (try simp only [Bool.and_eq_true] at hb)); intro wx hS; go_simp; (first | done | with_reducible rfl))))); (try simp only [Act.put, List.setIfInBounds_toArray, List.set_cons_zero, List.set_cons_succ]))
 refine Ch.done ?_
 rename_i c hc
 cases c with
 | true =>
  go_wp2_with (first | ((with_reducible refine Se.isL (o := ⟨some 36, _, _, _, _, _⟩) ?_); (refine Se.toL rfl (Se.ldw (o := ⟨some 36, _, _, _, _, _⟩) hs rfl rfl ((Reads.blk 1 rfl)) ((by rw [RLL.out]; kernel_rfl)) (by kernel_rfl) ?_))) | ((with_reducible refine Se.isL (o := ⟨none, _, _, _, _, _⟩) ?_); (refine Se.toL rfl (Se.sow 0 hs rfl rfl rfl rfl (RLO.out) ((by rw [RLL.out]; kernel_rfl)) ((by rw [RLL.out, ZL0.out])) ?_); clear hs; intro w hs; try simp only [List.cons_append, List.nil_append, List.set_cons_zero] at hs)))
  have hb : (((st : Int) == 1) && decide (0 < ma) && decide (ma ≤ na)) = true := and3c hc (by assumption) (by assumption) (by assumption) (by assumption)
  simp only [Bool.and_eq_true, beq_iff_eq, decide_eq_true_eq] at hb
  have HB := Lib.hid (B189.out ⟨by omega, hb.1.2, hb.2⟩)
  clear hb
  refine Se.ret hs [.agg RL.toArray, .int .i64 189] rfl ⟨Se.resRow rfl (Reads.blk 0 rfl) (by kernel_rfl) (by rw [RLL.out] <;> kernel_rfl), rfl, trivial⟩ (by simp) rfl ?_
  exact ⟨trivial, SAME.out 189 HB.out _ hs.drop.drop⟩
 | false =>
 have hb : (((st : Int) == 1) && decide (0 < ma) && decide (ma ≤ na)) = false := and3c hc (by assumption) (by assumption) (by assumption) (by assumption)
 go_upto_region 4 with (fail)
 simp only [Bool.and_eq_false_iff, beq_eq_false_iff_ne, decide_eq_false_iff_not] at hb
 have HN := Lib.hid (show ¬ (st = 1 ∧ 0 < ma ∧ ma ≤ na) by omega)
 clear hb
 simp only [List.cons_append, List.nil_append] at hs
 obtain ⟨RZ0, hRZ0⟩ : ∃ R, R = zcl { c := ⟨0, 0, 0, 0, 0⟩, l := [] } none 0 := ⟨_, rfl⟩
 rw [← hRZ0] at hs ZL0
 clear hRZ0 B189
 refine Gd.plain 11 (fun wx => Blk wx g2 RL 43) (fun  | _ => false) rfl (hs.hold (.blk g2 43 RL) (by simp)) ?_
 change Ch.CW _ _ _ _ _ [0, 1, 2, 3, 4, 5, 6, 7, 8, 9, 10] _ _
 iterate 11 (refine Gd.look (by rfl) ?_; (first | ((with_reducible refine Gd.isLoad0 ?_); first | (refine Gd.qp (v := _) (by rfl) (by rfl) (fun wx hS => Se.xl (by rfl) (by rfl) (by rw [(hS).cell]; first | exact R3.out) (by decide +kernel)) ?_)) | ((with_reducible refine Gd.isLoad1 ?_); first | (refine Gd.gp (v := ?_) (by rfl) (by first | exact Gd.want_t rfl rfl rfl | exact Gd.want_f rfl rfl rfl | exact Gd.want_mt rfl rfl rfl | exact Gd.want_mf rfl rfl rfl) ?_ ?_; rotate_left; (focus ((intro hb; have hb0 := hb; (try simp only [Bool.and_eq_true] at hb)); intro wx hS; exact Se.xl (by rfl) (by exact Gd.mv_of hb0) (by rw [(hS).cell]; first | exact R3.out) (by decide +kernel)))) | (refine Gd.gp (v := ?_) (by rfl) (by first | exact Gd.want_t rfl rfl rfl | exact Gd.want_f rfl rfl rfl | exact Gd.want_mt rfl rfl rfl | exact Gd.want_mf rfl rfl rfl) ?_ ?_; rotate_left; (focus ((intro hb; have hb0 := hb; (try simp only [Bool.and_eq_true] at hb)); intro wx hS; exact Se.xl (by rfl) (by rfl) (by rw [(hS).cell]; first | exact R3.out) (by decide +kernel))))) | ((with_reducible refine Gd.isPick0 ?_); refine Gd.qpick (b := _) (v := ?_) (e := ?_) (by rfl) (by rfl) (by rfl) (by rfl) ?_ ?_ ?_; rotate_left 2; (focus (go_simp; (first | done | with_reducible rfl))); (focus (with_reducible rfl)); (intro _ _)) | ((with_reducible refine Gd.isPick1 ?_); refine Gd.gpick (b := ?_) (v := ?_) (e := ?_) (by rfl) (by rfl) (by first | exact Gd.want_t rfl rfl rfl | exact Gd.want_f rfl rfl rfl | exact Gd.want_mt rfl rfl rfl | exact Gd.want_mf rfl rfl rfl) ?_ ?_ ?_; rotate_left 3; (focus ((intro hb; have hb0 := hb; (try simp only [Bool.and_eq_true] at hb)); refine ⟨?_, ?_⟩ <;> (go_simp; (first | done | with_reducible rfl)))); (focus (with_reducible rfl)); (intro _ _)) | ((with_reducible refine Gd.isBin0 (ty := 4) ?_); refine Gd.qb (v := ?_) (e := ?_) (by rfl) (by rfl) (fun wx hS => ?_) ?_ ?_; rotate_left 2; (focus (go_simp; (first | done | with_reducible rfl))); (focus (with_reducible rfl)); (intro _ _)) | ((with_reducible refine Gd.isUn0 (ty := 4) ?_); refine Gd.qb (v := ?_) (e := ?_) (by rfl) (by rfl) (fun wx hS => ?_) ?_ ?_; rotate_left 2; (focus (go_simp; (first | done | with_reducible rfl))); (focus (with_reducible rfl)); (intro _ _)) | ((with_reducible refine Gd.isBin1 (ty := 4) ?_); refine Gd.gb (v := ?_) (e := ?_) (by rfl) (by first | exact Gd.want_t rfl rfl rfl | exact Gd.want_f rfl rfl rfl | exact Gd.want_mt rfl rfl rfl | exact Gd.want_mf rfl rfl rfl) ?_ ?_ ?_; rotate_left 2; (focus ((intro hb; have hb0 := hb; (try simp only [Bool.and_eq_true] at hb)); intro wx hS; go_simp; (first | done | with_reducible rfl))); (focus (with_reducible rfl)); (intro _ _)) | ((with_reducible refine Gd.isUn1 (ty := 4) ?_); refine Gd.gb (v := ?_) (e := ?_) (by rfl) (by first | exact Gd.want_t rfl rfl rfl | exact Gd.want_f rfl rfl rfl | exact Gd.want_mt rfl rfl rfl | exact Gd.want_mf rfl rfl rfl) ?_ ?_ ?_; rotate_left 2; (focus ((intro hb; have hb0 := hb; (try simp only [Bool.and_eq_true] at hb)); intro wx hS; go_simp; (first | done | with_reducible rfl))); (focus (with_reducible rfl)); (intro _ _)) | ((with_reducible refine Gd.is0 ?_); refine Gd.qp (v := ?_) (by rfl) (by rfl) (fun wx hS => ?_) ?_; rotate_left; (focus (go_simp; (first | done | with_reducible rfl)))) | ((with_reducible refine Gd.is1 ?_); refine Gd.gp (v := ?_) (by rfl) (by first | exact Gd.want_t rfl rfl rfl | exact Gd.want_f rfl rfl rfl | exact Gd.want_mt rfl rfl rfl | exact Gd.want_mf rfl rfl rfl) ?_ ?_; rotate_left; (focus ((intro hb; have hb0 := hb; (try simp only [Bool.and_eq_true] at hb)); intro wx hS; go_simp; (first | done | with_reducible rfl))))); (try simp only [Act.put, List.setIfInBounds_toArray, List.set_cons_zero, List.set_cons_succ]))
 refine Ch.done ?_
 rename_i c hc
 cases c with
 | true =>
  go_wp2_with (first | ((with_reducible refine Se.isL (o := ⟨some 48, _, _, _, _, _⟩) ?_); (refine Se.toL rfl (Se.ldw (o := ⟨some 48, _, _, _, _, _⟩) hs rfl rfl ((Reads.blk 1 rfl)) ((by rw [RLL.out]; kernel_rfl)) (by kernel_rfl) ?_))) | ((with_reducible refine Se.isL (o := ⟨none, _, _, _, _, _⟩) ?_); (refine Se.toL rfl (Se.sow 0 hs rfl rfl rfl rfl (RLO.out) ((by rw [RLL.out]; kernel_rfl)) ((by rw [RLL.out, ZL0.out])) ?_); clear hs; intro w hs; try simp only [List.cons_append, List.nil_append, List.set_cons_zero] at hs)))
  have hb : (((mo : Int) == 0) || decide (no < mo)) = true := or2c hc (by assumption) (by assumption)
  simp only [Bool.or_eq_true, beq_iff_eq, decide_eq_true_eq] at hb
  have HB := Lib.hid (NOW.out HN.out (by omega))
  clear hb
  refine Se.ret hs [.agg RL.toArray, .int .i64 0] rfl ⟨Se.resRow rfl (Reads.blk 0 rfl) (by kernel_rfl) (by rw [RLL.out] <;> kernel_rfl), rfl, trivial⟩ (by simp) rfl ?_
  exact ⟨trivial, SAME.out 0 HB.out _ hs.drop.drop⟩
 | false =>
 have hb : (((mo : Int) == 0) || decide (no < mo)) = false := or2c hc (by assumption) (by assumption)
 simp only [Bool.or_eq_false_iff, beq_eq_false_iff_ne, decide_eq_false_iff_not] at hb
 have HM := Lib.hid (show ¬ (mo = 0 ∨ no < mo) by omega)
 clear hb NOW
 go_wp2_with fail
 go_loopg [8, 9] k (fun gh s8 s9 wr => ∃ j : Nat, gh = k - j ∧ j ≤ k ∧ s9 = .int .i64 (j : Int) ∧ s8 = .int .i64 (lv (leastN l j)) ∧ St w0 X (.blk g4 43 RZ0 :: .blk g2 43 RL :: L) wr)
 case atStart => exact ⟨0, rfl, Nat.zero_le _, rfl, rfl, hs⟩
 case round =>
  clear hs
  rename World => w
  obtain ⟨j, rfl, hj, rfl, rfl, hs⟩ := hrel
  by_cases hlt : j < k
  ·have hlt' : (j : Int) < (k : Int) := by omega
   have hjl : j < l.length := by have := HKL.out; omega
   obtain ⟨x, hx⟩ : ∃ x, x = l.getD j dz := ⟨_, rfl⟩
   obtain ⟨sx, hsx⟩ : ∃ s, s = x.st := ⟨_, rfl⟩
   obtain ⟨rx, hrx⟩ : ∃ s, s = x.r := ⟨_, rfl⟩
   have D0 := Lib.hid (show Cell L ga (oa + j * 3) (iv sx) from rcell HMR.out hjl 0 (by decide) (by rw [hsx, hx]; rfl))
   have D2 := Lib.hid (show Cell L ga (oa + j * 3 + 2) (iv rx) from rcell HMR.out hjl 2 (by decide) (by rw [hrx, hx]; rfl))
   have HLS : Hid (leastN l (j + 1) = match leastN l j with | none => (if sx = 2 then some j else none) | some m => (if sx = 2 ∧ rx < (l.getD m dz).r then some j else some m)) := Lib.hid (by rw [leastN, hsx, hrx, hx]; cases leastN l j <;> rfl)
   clear hx hsx hrx hjl
   go_upto_region 10 with (first | ((with_reducible refine Se.isL (o := ⟨some 51, _, _, _, _, _⟩) ?_); (refine Se.toL rfl (Se.ld (o := ⟨some 51, _, _, _, _, _⟩) hs rfl rfl (Cell.blk 1 rfl R5.out) (by kernel_rfl) ?_))))
   by_cases hs2 : sx = 2
   rotate_left
   ·have f0 : ((sx : Int) == 2) = false := by simp; omega
    have HE := Lib.hid (show leastN l (j + 1) = leastN l j by rw [HLS.out]; cases leastN l j <;> simp [hs2])
    clear hs2 HLS
    refine Ch.region' 26 (fun wx => Blk wx g2 RL 43 ∧ wx.cell? ⟨ga, oa + j * 3, none⟩ = some (iv sx)) (fun  | _ => false) (by kernel_rfl) (by decide +kernel) (⟨hs.drew.hold (.blk g2 43 RL) (by simp), (capp [_, _] D0.out) _ hs.drew.hold⟩) ?_
    replace hs := hs.drew
    generalize w.drew = w at hs ⊢
    change Ch.CW _ _ _ _ _ [0, 1, 2, 3, 4, 5, 6, 7, 8, 9, 10, 11, 12, 13, 14, 15, 16, 17, 18, 19, 20, 21, 22, 23, 24, 25] _ _
    iterate 8 ((first | (refine Ch.pure (v := ?_) (by rfl) (by rfl) (by rfl) (fun wx hS => ?_) ?_; rotate_left; (focus (go_simp; (first | done | with_reducible rfl)))) | refine Ch.pure (v := _) (by rfl) (by rfl) (by rfl) (fun wx hS => Se.xl rfl rfl (by rw [hS.1.cell]; exact R5.out) (by decide +kernel)) ?_ | refine Ch.pure (v := _) (by rfl) (by rfl) (by rfl) (fun wx hS => Se.xl rfl rfl hS.2 (by decide +kernel)) ?_); (try simp only [Act.put, List.setIfInBounds_toArray, List.set_cons_zero, List.set_cons_succ]))
    iterate 17 (refine Ch.skip (by rfl) (by rfl) ?_; (try simp only [Act.put, List.setIfInBounds_toArray, List.set_cons_zero, List.set_cons_succ]))
    iterate 1 ((first | (refine Ch.pure (v := ?_) (by rfl) (by rfl) (by rfl) (fun wx hS => ?_) ?_; rotate_left; (focus (go_simp; (first | done | with_reducible rfl))))); (try simp only [Act.put, List.setIfInBounds_toArray, List.set_cons_zero, List.set_cons_succ]))
    refine Ch.done ?_
    try simp only [List.drop_succ_cons, List.drop_zero]
    go_wp2_with fail
    go_roundg (k - (j + 1))
    case measure => omega
    case rel => exact ⟨j + 1, rfl, by omega, by go_num, by rw [HE.out], hs⟩
   have f0 : ((sx : Int) == 2) = true := by simp; omega
   cases hle : leastN l j with
   | none =>
    have HE := Lib.hid (show leastN l (j + 1) = some j by rw [HLS.out, hle]; simp [hs2])
    clear hs2 HLS hle
    simp only [lv]
    refine Ch.region' 26 (fun wx => Blk wx g2 RL 43 ∧ wx.cell? ⟨ga, oa + j * 3, none⟩ = some (iv sx)) (fun  | _ => false) (by kernel_rfl) (by decide +kernel) (⟨hs.drew.hold (.blk g2 43 RL) (by simp), (capp [_, _] D0.out) _ hs.drew.hold⟩) ?_
    replace hs := hs.drew
    generalize w.drew = w at hs ⊢
    change Ch.CW _ _ _ _ _ [0, 1, 2, 3, 4, 5, 6, 7, 8, 9, 10, 11, 12, 13, 14, 15, 16, 17, 18, 19, 20, 21, 22, 23, 24, 25] _ _
    iterate 11 ((first | (refine Ch.pure (v := ?_) (by rfl) (by rfl) (by rfl) (fun wx hS => ?_) ?_; rotate_left; (focus (go_simp; (first | done | with_reducible rfl)))) | refine Ch.pure (v := _) (by rfl) (by rfl) (by rfl) (fun wx hS => Se.xl rfl rfl (by rw [hS.1.cell]; exact R5.out) (by decide +kernel)) ?_ | refine Ch.pure (v := _) (by rfl) (by rfl) (by rfl) (fun wx hS => Se.xl rfl rfl hS.2 (by decide +kernel)) ?_); (try simp only [Act.put, List.setIfInBounds_toArray, List.set_cons_zero, List.set_cons_succ]))
    iterate 13 (refine Ch.skip (by rfl) (by rfl) ?_; (try simp only [Act.put, List.setIfInBounds_toArray, List.set_cons_zero, List.set_cons_succ]))
    iterate 2 ((first | (refine Ch.pure (v := ?_) (by rfl) (by rfl) (by rfl) (fun wx hS => ?_) ?_; rotate_left; (focus (go_simp; (first | done | with_reducible rfl))))); (try simp only [Act.put, List.setIfInBounds_toArray, List.set_cons_zero, List.set_cons_succ]))
    refine Ch.done ?_
    try simp only [List.drop_succ_cons, List.drop_zero]
    go_wp2_with fail
    go_roundg (k - (j + 1))
    case measure => omega
    case rel => exact ⟨j + 1, rfl, by omega, by go_num, by rw [HE.out]; rfl, hs⟩
   | some m =>
    have hmj := leastN_lt l j m hle
    have hml : m < l.length := by have := HKL.out; omega
    obtain ⟨rm, hrm⟩ : ∃ s, s = (l.getD m dz).r := ⟨_, rfl⟩
    have M2 := Lib.hid (show Cell L ga (oa + m * 3 + 2) (iv rm) from rcell HMR.out hml 2 (by decide) (by rw [hrm]; rfl))
    have HLS2 := HLS.out
    rw [hle] at HLS2
    dsimp only at HLS2
    rw [← hrm] at HLS2
    have hmk : (m : Int) < (k : Int) := by omega
    have hm0 : decide ((m : Int) < 0) = false := by rw [decide_eq_false_iff_not]; omega
    have hm00 : ¬ (m : Int) < 0 := by omega
    by_cases hrr : rx < rm
    ·have f2 : decide (rx < rm) = true := by simpa using hrr
     have f3 : decide ((rx : Int) < (rm : Int)) = true := by simp; omega
     have HE := Lib.hid (show leastN l (j + 1) = some j by rw [HLS2]; simp [hs2, hrr])
     clear hs2 HLS HLS2 hle hrm hrr hml hmj
     simp only [lv]
     refine Ch.region' 26 (fun wx => (Blk wx g2 RL 43 ∧ wx.cell? ⟨ga, oa + j * 3, none⟩ = some (iv sx)) ∧ wx.cell? ⟨ga, oa + j * 3 + 2, none⟩ = some (iv rx) ∧ wx.cell? ⟨ga, oa + m * 3 + 2, none⟩ = some (iv rm)) (fun  | _ => false) (by kernel_rfl) (by decide +kernel) (⟨⟨hs.drew.hold (.blk g2 43 RL) (by simp), (capp [_, _] D0.out) _ hs.drew.hold⟩, (capp [_, _] D2.out) _ hs.drew.hold, (capp [_, _] M2.out) _ hs.drew.hold⟩) ?_
     replace hs := hs.drew
     generalize w.drew = w at hs ⊢
     change Ch.CW _ _ _ _ _ [0, 1, 2, 3, 4, 5, 6, 7, 8, 9, 10, 11, 12, 13, 14, 15, 16, 17, 18, 19, 20, 21, 22, 23, 24, 25] _ _
     iterate 26 ((first | (refine Ch.pure (v := ?_) (by rfl) (by rfl) (by rfl) (fun wx hS => ?_) ?_; rotate_left; (focus (go_simp; (first | done | with_reducible rfl)))) | refine Ch.pure (v := _) (by rfl) (by rfl) (by rfl) (fun wx hS => Se.xl rfl rfl (by rw [hS.1.1.cell]; exact R5.out) (by decide +kernel)) ?_ | refine Ch.pure (v := _) (by rfl) (by rfl) (by rfl) (fun wx hS => Se.xl rfl rfl hS.1.2 (by decide +kernel)) ?_ | refine Ch.pure (v := _) (by rfl) (by rfl) (by rfl) (fun wx hS => Se.xl rfl rfl hS.2.1 (by decide +kernel)) ?_ | refine Ch.pure (v := _) (by rfl) (by rfl) (by rfl) (fun wx hS => Se.xl rfl rfl hS.2.2 (by decide +kernel)) ?_); (try simp only [Act.put, List.setIfInBounds_toArray, List.set_cons_zero, List.set_cons_succ]))
     refine Ch.done ?_
     try simp only [List.drop_succ_cons, List.drop_zero]
     go_wp2_with fail
     go_roundg (k - (j + 1))
     case measure => omega
     case rel => exact ⟨j + 1, rfl, by omega, by go_num, by rw [HE.out]; rfl, hs⟩
    ·have f2 : decide (rx < rm) = false := by simpa using hrr
     have f3 : decide ((rx : Int) < (rm : Int)) = false := by simp; omega
     have HE := Lib.hid (show leastN l (j + 1) = some m by rw [HLS2]; simp [hrr])
     clear hs2 HLS HLS2 hle hrm hrr hml hmj
     simp only [lv]
     refine Ch.region' 26 (fun wx => (Blk wx g2 RL 43 ∧ wx.cell? ⟨ga, oa + j * 3, none⟩ = some (iv sx)) ∧ wx.cell? ⟨ga, oa + j * 3 + 2, none⟩ = some (iv rx) ∧ wx.cell? ⟨ga, oa + m * 3 + 2, none⟩ = some (iv rm)) (fun  | _ => false) (by kernel_rfl) (by decide +kernel) (⟨⟨hs.drew.hold (.blk g2 43 RL) (by simp), (capp [_, _] D0.out) _ hs.drew.hold⟩, (capp [_, _] D2.out) _ hs.drew.hold, (capp [_, _] M2.out) _ hs.drew.hold⟩) ?_
     replace hs := hs.drew
     generalize w.drew = w at hs ⊢
     change Ch.CW _ _ _ _ _ [0, 1, 2, 3, 4, 5, 6, 7, 8, 9, 10, 11, 12, 13, 14, 15, 16, 17, 18, 19, 20, 21, 22, 23, 24, 25] _ _
     iterate 26 ((first | (refine Ch.pure (v := ?_) (by rfl) (by rfl) (by rfl) (fun wx hS => ?_) ?_; rotate_left; (focus (go_simp; (first | done | with_reducible rfl)))) | refine Ch.pure (v := _) (by rfl) (by rfl) (by rfl) (fun wx hS => Se.xl rfl rfl (by rw [hS.1.1.cell]; exact R5.out) (by decide +kernel)) ?_ | refine Ch.pure (v := _) (by rfl) (by rfl) (by rfl) (fun wx hS => Se.xl rfl rfl hS.1.2 (by decide +kernel)) ?_ | refine Ch.pure (v := _) (by rfl) (by rfl) (by rfl) (fun wx hS => Se.xl rfl rfl hS.2.1 (by decide +kernel)) ?_ | refine Ch.pure (v := _) (by rfl) (by rfl) (by rfl) (fun wx hS => Se.xl rfl rfl hS.2.2 (by decide +kernel)) ?_); (try simp only [Act.put, List.setIfInBounds_toArray, List.set_cons_zero, List.set_cons_succ]))
     refine Ch.done ?_
     try simp only [List.drop_succ_cons, List.drop_zero]
     go_wp2_with fail
     go_roundg (k - (j + 1))
     case measure => omega
     case rel => exact ⟨j + 1, rfl, by omega, by go_num, by rw [HE.out]; rfl, hs⟩
  ·obtain rfl : j = k := by omega
   cases hle : leastN l j with
   | none =>
    have HB := Lib.hid (B190.out HN.out HM.out hle)
    clear LEA hle B190
    simp only [lv]
    go_wp2_with (first | ((with_reducible refine Se.isL (o := ⟨some 51, _, _, _, _, _⟩) ?_); (refine Se.toL rfl (Se.ld (o := ⟨some 51, _, _, _, _, _⟩) hs rfl rfl (Cell.blk 1 rfl R5.out) (by kernel_rfl) ?_))) | ((with_reducible refine Se.isL (o := ⟨some 85, _, _, _, _, _⟩) ?_); (refine Se.toL rfl (Se.ldw (o := ⟨some 85, _, _, _, _, _⟩) hs rfl rfl ((Reads.blk 1 rfl)) ((by rw [RLL.out]; kernel_rfl)) (by kernel_rfl) ?_))) | ((with_reducible refine Se.isL (o := ⟨none, _, _, _, _, _⟩) ?_); (refine Se.toL rfl (Se.sow 0 hs rfl rfl rfl rfl (RLO.out) ((by rw [RLL.out]; kernel_rfl)) ((by rw [RLL.out, ZL0.out])) ?_); clear hs; intro w hs; try simp only [List.cons_append, List.nil_append, List.set_cons_zero] at hs)))
    refine Se.ret hs [.agg RL.toArray, .int .i64 190] rfl ⟨Se.resRow rfl (Reads.blk 0 rfl) (by kernel_rfl) (by rw [RLL.out] <;> kernel_rfl), rfl, trivial⟩ (by simp) rfl ?_
    exact ⟨trivial, SAME.out 190 HB.out _ hs.drop.drop⟩
   | some m =>
    have hmj := leastN_lt l j m hle
    have HB := Lib.hid (LEA.out HN.out HM.out m hle)
    have hmk : (m : Int) < (j : Int) := by omega
    have hm0 : decide ((m : Int) < 0) = false := by rw [decide_eq_false_iff_not]; omega
    have hm00 : ¬ (m : Int) < 0 := by omega
    have hml : m < l.length := by have := HKL.out; omega
    obtain ⟨O, hO⟩ : ∃ O, O = oc (l.getD m dz) := ⟨_, rfl⟩
    obtain ⟨O2, hO2⟩ : ∃ O, O = oc { l.getD m dz with st := 4 } := ⟨_, rfl⟩
    have HRM := Lib.hid (show Reads L (some ⟨ga, oa + m * 3, none⟩) O by rw [hO, getD_get hml]; exact row_at HMR.out hml)
    have OL := Lib.hid (show O.length = 3 by rw [hO]; rfl)
    have OO := Lib.hid (show ∀ v ∈ O, v.oneCell' = true by rw [hO]; exact oc_one _)
    have OL2 := Lib.hid (show O2.length = 3 by rw [hO2]; rfl)
    have OS := Lib.hid (show O.set 0 (.int .i64 4) = O2 by rw [hO, hO2]; rfl)
    have CS := Lib.hid (CSE.out m hmj.1)
    rw [← hO2] at CS
    clear B190 LEA CSE hle hmj hO hO2 hml
    simp only [lv]
    go_wp2_with (first | ((with_reducible refine Se.isL (o := ⟨some 51, _, _, _, _, _⟩) ?_); (refine Se.toL rfl (Se.ld (o := ⟨some 51, _, _, _, _, _⟩) hs rfl rfl (Cell.blk 1 rfl R5.out) (by kernel_rfl) ?_))) | ((with_reducible refine Se.isL (o := ⟨some 87, _, _, _, _, _⟩) ?_); (refine Se.toL rfl (Se.ld (o := ⟨some 87, _, _, _, _, _⟩) hs rfl rfl (Cell.blk 1 rfl R5.out) (by kernel_rfl) ?_))) | ((with_reducible refine Se.isL (o := ⟨some 90, _, _, _, _, _⟩) ?_); (refine Se.toL rfl (Se.ldw (o := ⟨some 90, _, _, _, _, _⟩) hs rfl rfl ((HRM.out.app [_, _])) ((by rw [OL.out]; kernel_rfl)) (by kernel_rfl) ?_))) | ((with_reducible refine Se.isL (o := ⟨some 10, _, _, _, _, _⟩) ?_); (refine Se.toL rfl (Se.al (o := ⟨some 10, _, _, _, _, _⟩) hs rfl (zRo) ?_); clear hs; rintro w g10 - hs)) | ((with_reducible refine Se.isL (o := ⟨none, Op.store 67 _ _, _, _, _, _⟩) ?_); (refine Se.toL rfl (Se.sow 0 hs rfl rfl rfl rfl (OO.out) ((by rw [OL.out]; kernel_rfl)) ((by rw [OL.out]; exact Z3.out)) ?_); clear hs; intro w hs; try simp only [List.cons_append, List.nil_append, List.set_cons_zero] at hs)) | ((with_reducible refine Se.isL (o := ⟨none, _, _, _, _, _⟩) ?_); ((first | refine Se.toL rfl (Se.soq 0 (v := .int _ _) hs rfl rfl rfl rfl rfl (by kernel_rfl) ((by rw [OL.out]; decide)) (OS.out) ?_) | refine Se.toL rfl (Se.soq 0 (v := .bool _) hs rfl rfl rfl rfl rfl (by kernel_rfl) ((by rw [OL.out]; decide)) (OS.out) ?_) | refine Se.toL rfl (Se.soq 0 (v := .slice _ _ _) hs rfl rfl rfl rfl rfl (by kernel_rfl) ((by rw [OL.out]; decide)) (OS.out) ?_) | refine Se.toL rfl (Se.soq 0 (v := .pointer _) hs rfl rfl rfl rfl rfl (by kernel_rfl) ((by rw [OL.out]; decide)) (OS.out) ?_) | refine Se.toL rfl (Se.soq 0 (v := .string _) hs rfl rfl rfl rfl rfl (by kernel_rfl) ((by rw [OL.out]; decide)) (OS.out) ?_) | refine Se.toL rfl (Se.soq 0 (v := .map _) hs rfl rfl rfl rfl rfl (by kernel_rfl) ((by rw [OL.out]; decide)) (OS.out) ?_) | refine Se.toL rfl (Se.soq 0 (v := .func _ _ _) hs rfl rfl rfl rfl rfl (by kernel_rfl) ((by rw [OL.out]; decide)) (OS.out) ?_) | refine Se.toL rfl (Se.soq 0 (v := .nilFunc) hs rfl rfl rfl rfl rfl (by kernel_rfl) ((by rw [OL.out]; decide)) (OS.out) ?_)); clear hs; intro w hs; try simp only [List.cons_append, List.nil_append, List.set_cons_zero] at hs)) | ((with_reducible refine Se.isL (o := ⟨some 92, _, _, _, _, _⟩) ?_); (refine Se.toL rfl (Se.ldw (o := ⟨some 92, _, _, _, _, _⟩) hs rfl rfl ((Reads.blk 2 rfl)) ((by rw [RLL.out]; kernel_rfl)) (by kernel_rfl) ?_))) | ((with_reducible refine Se.isL (o := ⟨some 94, _, _, _, _, _⟩) ?_); (refine Se.toL rfl (Se.ldw (o := ⟨some 94, _, _, _, _, _⟩) hs rfl rfl ((Reads.blk 0 rfl)) ((by rw [OL2.out]; kernel_rfl)) (by kernel_rfl) ?_))) | ((with_reducible refine Se.isL (o := ⟨none, Op.store 43 _ _, _, _, _, _⟩) ?_); (refine Se.toL rfl (Se.sow 2 hs rfl rfl rfl rfl (hzn.one) ((by rw [hzn.len]; kernel_rfl)) ((by rw [hzn.len, ZL0.out])) ?_); clear hs; intro w hs; try simp only [List.cons_append, List.nil_append, List.set_cons_zero, List.set_cons_succ] at hs)) | (go_at_call 84; refine Calls.mono (CS.out [_, _, _] _ hs) ?_; clear hs; rintro e w ⟨A', ZN, rfl, hzn, hs⟩))
    refine Se.ret hs [.agg ZN.toArray, .int .i64 0] rfl ⟨Se.resRow rfl (Reads.blk 2 rfl) (by kernel_rfl) (by rw [hzn.len] <;> kernel_rfl), rfl, trivial⟩ (by simp) rfl ?_
    refine ⟨trivial, ?_⟩
    rw [HB.out]
    exact ⟨A', ZN, rfl, hzn, hs.sub (List.Sublist.cons_cons _ (.cons _ (.cons _ (.cons _ (List.Sublist.refl _)))))⟩
end Zo
end Go.Proofs.Ythpgkkfahiglnaa


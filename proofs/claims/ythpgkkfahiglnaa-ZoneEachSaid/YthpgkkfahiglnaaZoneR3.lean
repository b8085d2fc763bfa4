/- Layer 28's reference: put. No condition but Go's own limits. Printed by wip/gen_zoner3.py. -/
import Derived.Test.YthpgkkfahiglnaaZoneR2
set_option maxRecDepth 100000
set_option maxHeartbeats 4000000
set_option linter.unusedSimpArgs false
set_option linter.unusedVariables false
namespace Go.Proofs.Ythpgkkfahiglnaa
open Go Go.RowKit
namespace Zo
open Se (St At Reads Cell)
open Li (Rd Blk Fr)
variable {w0 w : World} {X : List Nat} {L : List At}
attribute [local irreducible] Calls
attribute [local go_sem] eql_nil Gd.mv_true Gd.pk_or Gd.pk_and Gd.pk_true Gd.pk_false
theorem rput_st {z : Zs} {A : Option Addr} {ZI : List Value} (hs : St w0 X L w) (hm : At.rd A (ocs z.l) ∈ L) (ho : OkZ z) (hz : RZ z A ZI) (hw : z.w < 1099511627776) {i n : Nat} (hi : i < z.l.length) (hn : n ≤ 1048576) :
  Calls Try.prog 82 #[.agg ZI.toArray, .int .i64 (i : Int), .int .i64 (n : Int)] w fun e w' => True ∧ QR w0 X L (putE z i n) e w' := by
 obtain ⟨cc, hRZ⟩ := hz
 obtain ⟨ga, oa, rfl, _, _⟩ := (hs.hold _ hm).cells (ocs_ne (by rw [ho.1]; exact ho.2.1))
 obtain ⟨RL, hRL⟩ : ∃ RL, RL = ZI := ⟨_, rfl⟩
 rw [← hRL]
 rw [hRZ] at hRL
 obtain ⟨k, hk⟩ : ∃ n, n = z.l.length := ⟨_, rfl⟩
 have hk1 : k ≤ 4096 := by rw [hk, ho.1]; exact ho.2.2.1
 have hk0 : 1 ≤ k := by rw [hk, ho.1]; exact ho.2.1
 have RLL := Lib.hid (show RL.length = 7 by rw [hRL]; rfl)
 have RLO := Lib.hid (show ∀ v ∈ RL, v.oneCell' = true by rw [hRL]; exact zcl_one _ _ _)
 have R5 := Lib.hid (show RL[5]? = some (.slice (some ⟨ga, oa, none⟩) k cc) by rw [hRL, hk]; rfl)
 obtain ⟨cap, hcap⟩ : ∃ n, n = z.c.cap := ⟨_, rfl⟩
 have R2 := Lib.hid (show RL[2]? = some (iv cap) by rw [hRL, hcap]; rfl)
 obtain ⟨l, hl⟩ : ∃ l, l = z.l := ⟨_, rfl⟩
 obtain ⟨x, hx⟩ : ∃ x, x = l.getD i dz := ⟨_, rfl⟩
 obtain ⟨st, hst⟩ : ∃ p, p = x.st := ⟨_, rfl⟩
 obtain ⟨p, hp⟩ : ∃ p, p = x.p := ⟨_, rfl⟩
 have hil : i < l.length := by rw [hl]; exact hi
 have hmr : Reads L (some ⟨ga, oa, none⟩) (ocs l) := by rw [hl]; exact Reads.rdm hm
 have C0 := Lib.hid (show Cell L ga (oa + i * 3) (iv st) from rcell hmr hil 0 (by decide) (by rw [hst, hx]; rfl))
 have C1 := Lib.hid (show Cell L ga (oa + i * 3 + 1) (iv p) from rcell hmr hil 1 (by decide) (by rw [hp, hx]; rfl))
 have HRX := Lib.hid (show Reads L (some ⟨ga, oa + i * 3, none⟩) (oc x) by rw [hx, getD_get hil]; exact row_at hmr hil)
 have hik : (i : Int) < (k : Int) := by rw [hk]; omega
 obtain ⟨rr, hrr⟩ : ∃ p, p = x.r := ⟨_, rfl⟩
 have hcap1 : cap ≤ 65536 := by rw [hcap]; have := ho.2.2.2.2.2.2.1; have := ho.2.2.2.2.1; omega
 have hpc : p ≤ cap := by rw [hp, hcap, hx, hl]; exact (ho.2.2.2.2.2.2.2.2.2 _ (getD_mem hi)).2.2.1
 have hzr : RZ z (some ⟨ga, oa, none⟩) RL := ⟨cc, hRL⟩
 have SAME : Hid (∀ c, putE z i n = (z, c) → ∀ w, St w0 X L w → QR w0 X L (putE z i n) (.returned (.tuple #[.agg RL.toArray, iv c])) w) := Lib.hid (fun c he w hs => by
  rw [he]
  exact ⟨_, _, rfl, hzr, hs.dup hm⟩)
 obtain ⟨b, hb⟩ : ∃ b, b = opn st := ⟨_, rfl⟩
 obtain ⟨pn, hpn⟩ : ∃ m, m = p + n := ⟨_, rfl⟩
 have w2 : IntKind.i64.wrap ((p : Int) + (n : Int)) = (pn : Int) := by rw [hpn, Int.natCast_add]; exact IntWalk.i64_in _ (by omega)
 have hpn2 : pn ≤ 1114112 := by omega
 have CO : Hid (∀ (L : List At) (w : World), St w0 X L w → Calls Try.prog 78 #[iv st] w fun e w' => e = .returned (.bool b) ∧ St w0 X L w') := Lib.hid (fun L w hs => by rw [hb]; exact ropen_v hs st)
 have BAD : Hid (cap < pn → putE z i n = (z, 184)) := Lib.hid (fun h => by unfold putE; rw [if_pos (by rw [← hcap, ← hl, ← hx, ← hp, ← hpn]; exact h)])
 have HPT : Hid (¬ cap < pn → b = true → putE z i n = (putF z i n st { st := 1, p := p }, 0)) := Lib.hid (fun h h2 => by
  unfold putE
  rw [if_neg (by rw [← hcap, ← hl, ← hx, ← hp, ← hpn]; exact h), if_pos (by rw [← hl, ← hx, ← hst, ← hb]; exact h2), hst, hp, hx, hl]
  rfl)
 have HPF : Hid (¬ cap < pn → b = false → (opensE z i).2 = 0 → putE z i n = (putF (opensE z i).1 i n 2 { st := 1, p := p }, 0)) := Lib.hid (fun h h2 h3 => by
  unfold putE
  rw [if_neg (by rw [← hcap, ← hl, ← hx, ← hp, ← hpn]; exact h), if_neg (by rw [← hl, ← hx, ← hst, ← hb, h2]; decide), if_pos h3, hp, hx, hl]
  rfl)
 have HPB : Hid (¬ cap < pn → b = false → (opensE z i).2 ≠ 0 → putE z i n = (z, (opensE z i).2)) := Lib.hid (fun h h2 h3 => by
  unfold putE
  rw [if_neg (by rw [← hcap, ← hl, ← hx, ← hp, ← hpn]; exact h), if_neg (by rw [← hl, ← hx, ← hst, ← hb, h2]; decide), if_neg h3])
 have HQX : Hid (b = false → (opensE z i).1.l.getD i dz = x) := Lib.hid (fun h => by rw [opens_at (by rw [← hl, ← hx, ← hst, ← hb]; exact h), hx, hl])
 have HOP := Lib.hid (ho.opens i)
 have CQ : Hid (∀ (M : List At) (w : World), St w0 X (M ++ L) w → Calls Try.prog 83 #[.agg RL.toArray, .int .i64 (i : Int)] w fun e' w' => True ∧ QR w0 X (M ++ L) (opensE z i) e' w') := Lib.hid (fun M w hs => ropens_st hs (memM hm M) ho hzr hi)
 have ZL0 := Lib.hid (show (zcl { c := ⟨0, 0, 0, 0, 0⟩, l := [] } none 0).length = 7 from rfl)
 have HXO := Lib.hid (show oc x = [iv st, iv p, iv rr] by rw [hst, hp, hrr]; rfl)
 have HIK := Lib.hid (show i < k by omega)
 have HMM := Lib.hid hm
 have HOZ := Lib.hid ho
 have HWZ := Lib.hid hw
 have HKZ := Lib.hid hk
 have HCZ := Lib.hid hcap
 have HPN := Lib.hid hpn
 have HZX := Lib.hid (show z.l.getD i dz = x by rw [hx, hl])
 have HZR := Lib.hid hzr
 clear hRL hRZ hk hcap hl hst hp hx hrr hil hmr ho hi hzr hm hpn hb hw hpc
 obtain ⟨RZ0, hRZ0⟩ : ∃ R, R = zcl { c := ⟨0, 0, 0, 0, 0⟩, l := [] } none 0 := ⟨_, rfl⟩
 have zRz' := Lib.hid zRz
 rw [← hRZ0] at ZL0 zRz'
 clear hRZ0
 by_cases hbad : cap < pn
 ·have f1 : decide ((cap : Int) < (pn : Int)) = true := by simp; omega
  have f3 : decide (cap < pn) = true := by simpa using hbad
  have HB := Lib.hid (BAD.out hbad)
  clear hbad
  go_enter Try.func82, Try.ntmps82
  go_upto_region 1 with (first | ((with_reducible refine Se.isL (o := ⟨some 6, _, _, _, _, _⟩) ?_); (refine Se.toL rfl (Se.al (o := ⟨some 6, _, _, _, _, _⟩) hs rfl (zRz'.out) ?_); clear hs; rintro w g6 - hs)) | ((first | with_reducible refine Se.ab hs ?_ | with_reducible refine Se.abc hs ?_); clear hs; (first | (generalize w.heap.size = g3; intro w hs))))
  refine Ch.region' 12 (fun wx => Blk wx g3 RL 43 ∧ wx.cell? ⟨ga, oa + i * 3 + 1, none⟩ = some (iv p)) (fun  | _ => false) (by kernel_rfl) (by decide +kernel) (⟨hs.drew.hold (.blk g3 43 RL) (by simp), (capp [_, _] C1.out) _ hs.drew.hold⟩) ?_
  replace hs := hs.drew
  generalize w.drew = w at hs ⊢
  change Ch.CW _ _ _ _ _ [0, 1, 2, 3, 4, 5, 6, 7, 8, 9, 10, 11] _ _
  iterate 12 ((first | (refine Ch.pure (v := ?_) (by rfl) (by rfl) (by rfl) (fun wx hS => ?_) ?_; rotate_left; (focus (go_simp; (first | done | with_reducible rfl)))) | refine Ch.pure (v := _) (by rfl) (by rfl) (by rfl) (fun wx hS => Se.xl rfl rfl (by rw [hS.1.cell]; exact R5.out) (by decide +kernel)) ?_ | refine Ch.pure (v := _) (by rfl) (by rfl) (by rfl) (fun wx hS => Se.xl rfl rfl (by rw [hS.1.cell]; exact R2.out) (by decide +kernel)) ?_ | refine Ch.pure (v := _) (by rfl) (by rfl) (by rfl) (fun wx hS => Se.xl rfl rfl hS.2 (by decide +kernel)) ?_); (try simp only [Act.put, List.setIfInBounds_toArray, List.set_cons_zero, List.set_cons_succ]))
  refine Ch.done ?_
  try simp only [List.drop_succ_cons, List.drop_zero]
  go_wp2_with (first | ((with_reducible refine Se.isL (o := ⟨some 24, _, _, _, _, _⟩) ?_); (refine Se.toL rfl (Se.ldw (o := ⟨some 24, _, _, _, _, _⟩) hs rfl rfl ((Reads.blk 1 rfl)) ((by rw [RLL.out]; kernel_rfl)) (by kernel_rfl) ?_))) | ((with_reducible refine Se.isL (o := ⟨none, _, _, _, _, _⟩) ?_); (refine Se.toL rfl (Se.sow 0 hs rfl rfl rfl rfl (RLO.out) ((by rw [RLL.out]; kernel_rfl)) ((by rw [RLL.out, ZL0.out])) ?_); clear hs; intro w hs; try simp only [List.cons_append, List.nil_append, List.set_cons_zero] at hs)))
  refine Se.ret hs [.agg RL.toArray, .int .i64 184] rfl ⟨Se.resRow rfl (Reads.blk 0 rfl) (by kernel_rfl) (by rw [RLL.out] <;> kernel_rfl), rfl, trivial⟩ (by simp) rfl ?_
  exact ⟨trivial, SAME.out 184 HB.out _ hs.drop.drop⟩
 have f1 : decide ((cap : Int) < (pn : Int)) = false := by simp; omega
 have f3 : decide (cap < pn) = false := by simpa using hbad
 have HNB := Lib.hid hbad
 clear hbad BAD
 go_enter Try.func82, Try.ntmps82
 go_upto_region 1 with (first | ((with_reducible refine Se.isL (o := ⟨some 6, _, _, _, _, _⟩) ?_); (refine Se.toL rfl (Se.al (o := ⟨some 6, _, _, _, _, _⟩) hs rfl (zRz'.out) ?_); clear hs; rintro w g6 - hs)) | ((first | with_reducible refine Se.ab hs ?_ | with_reducible refine Se.abc hs ?_); clear hs; (first | (generalize w.heap.size = g3; intro w hs))))
 refine Ch.region' 12 (fun wx => Blk wx g3 RL 43 ∧ wx.cell? ⟨ga, oa + i * 3 + 1, none⟩ = some (iv p)) (fun  | _ => false) (by kernel_rfl) (by decide +kernel) (⟨hs.drew.hold (.blk g3 43 RL) (by simp), (capp [_, _] C1.out) _ hs.drew.hold⟩) ?_
 replace hs := hs.drew
 generalize w.drew = w at hs ⊢
 change Ch.CW _ _ _ _ _ [0, 1, 2, 3, 4, 5, 6, 7, 8, 9, 10, 11] _ _
 iterate 12 ((first | (refine Ch.pure (v := ?_) (by rfl) (by rfl) (by rfl) (fun wx hS => ?_) ?_; rotate_left; (focus (go_simp; (first | done | with_reducible rfl)))) | refine Ch.pure (v := _) (by rfl) (by rfl) (by rfl) (fun wx hS => Se.xl rfl rfl (by rw [hS.1.cell]; exact R5.out) (by decide +kernel)) ?_ | refine Ch.pure (v := _) (by rfl) (by rfl) (by rfl) (fun wx hS => Se.xl rfl rfl (by rw [hS.1.cell]; exact R2.out) (by decide +kernel)) ?_ | refine Ch.pure (v := _) (by rfl) (by rfl) (by rfl) (fun wx hS => Se.xl rfl rfl hS.2 (by decide +kernel)) ?_); (try simp only [Act.put, List.setIfInBounds_toArray, List.set_cons_zero, List.set_cons_succ]))
 refine Ch.done ?_
 try simp only [List.drop_succ_cons, List.drop_zero]
 clear f1 f3
 cases b with
 | true =>
  have HPE0 := Lib.hid (HPT.out HNB.out rfl)
  clear HPT HPF HPB HQX CQ SAME
  go_upto_region 9 with (first | ((with_reducible refine Se.isL (o := ⟨some 25, _, _, _, _, _⟩) ?_); (refine Se.toL rfl (Se.ldw (o := ⟨some 25, _, _, _, _, _⟩) hs rfl rfl ((Reads.blk 1 rfl)) ((by rw [RLL.out]; kernel_rfl)) (by kernel_rfl) ?_))) | ((with_reducible refine Se.isL (o := ⟨some 8, _, _, _, _, _⟩) ?_); (refine Se.toL rfl (Se.al (o := ⟨some 8, _, _, _, _, _⟩) hs rfl (zRz'.out) ?_); clear hs; rintro w g8 - hs)) | ((with_reducible refine Se.isL (o := ⟨none, _, _, _, _, _⟩) ?_); (refine Se.toL rfl (Se.sow 0 hs rfl rfl rfl rfl (RLO.out) ((by rw [RLL.out]; kernel_rfl)) ((by rw [RLL.out, ZL0.out])) ?_); clear hs; intro w hs; try simp only [List.cons_append, List.nil_append, List.set_cons_zero] at hs)) | ((with_reducible refine Se.isL (o := ⟨some 27, _, _, _, _, _⟩) ?_); (refine Se.toL rfl (Se.ld (o := ⟨some 27, _, _, _, _, _⟩) hs rfl rfl (Cell.blk 2 rfl R5.out) (by kernel_rfl) ?_))) | ((with_reducible refine Se.isL (o := ⟨some 31, _, _, _, _, _⟩) ?_); (refine Se.toL rfl (Se.ld (o := ⟨some 31, _, _, _, _, _⟩) hs rfl rfl ((capp [_, _, _] C0.out)) (by kernel_rfl) ?_))) | (go_at_call 78; refine Calls.mono (CO.out _ _ hs) ?_; clear hs; rintro e w ⟨rfl, hs⟩))
  replace hs := hs.dup (by simp [HMM.out] : At.rd (some ⟨ga, oa, none⟩) (ocs z.l) ∈ _)
  obtain ⟨ZN, hZN⟩ : ∃ Z, Z = RL := ⟨_, rfl⟩
  have hs : St w0 X (.rd (some ⟨ga, oa, none⟩) (ocs z.l) :: .blk g8 43 ZN :: .blk g6 43 RZ0 :: .blk g3 43 RL :: L) w := by rw [hZN]; exact hs
  have hzn : RZ z (some ⟨ga, oa, none⟩) ZN := by rw [hZN]; exact HZR.out
  obtain ⟨o, hoo⟩ : ∃ o, o = z := ⟨_, rfl⟩
  have HOK := Lib.hid (show o.l.length = k by rw [hoo, HKZ.out])
  have HOX := Lib.hid (show o.l.getD i dz = ⟨st, p, rr⟩ by rw [hoo, HZX.out]; have h := HXO.out; simp only [oc, List.cons.injEq, Value.int.injEq, Int.natCast_inj, true_and, and_true] at h; obtain ⟨h1, h2, h3⟩ := h; rw [← h1, ← h2, ← h3])
  have HCAP := Lib.hid (show cap = o.c.cap by rw [hoo, HCZ.out])
  have OKW : Hid (∀ wm, o.w ≤ wm → OkZ { o with w := wm }) := Lib.hid (fun wm h => by
   obtain ⟨a0, a1, a2, a3, a4, a5, a6, a7, a8, a9⟩ := HOZ.out
   rw [← hoo] at a0 a1 a2 a3 a4 a5 a6 a7 a8 a9
   exact ⟨a0, a1, a2, a3, a4, a5, a6, a7, a8, fun y hy => by have := a9 y hy; dsimp only; omega⟩)
  rw [← hoo] at hzn hs
  obtain ⟨zo, hzo⟩ : ∃ n, n = o.w := ⟨_, rfl⟩
  have HZO := Lib.hid (show zo < 1099511627776 by rw [hzo, hoo]; exact HWZ.out)
  obtain ⟨gb, hgb⟩ : ∃ g, g = ga := ⟨_, rfl⟩
  obtain ⟨ob, hob⟩ : ∃ g, g = oa := ⟨_, rfl⟩
  rw [← hgb, ← hob] at hzn hs
  have HPE : Hid (putE z i n = (putF o i n st { st := 1, p := p }, 0)) := Lib.hid (by rw [hoo]; exact HPE0.out)
  have HPE : Hid (putE z i n = (putS { o with w := o.w + 1 } i { st := if pn = o.c.cap then 14 else st, p := pn, r := o.w + 1 }, 0)) := Lib.hid (by rw [HPE.out]; unfold putF putS; dsimp only; rw [HPN.out])
  clear hZN hoo hgb hob HPE0
  focus
   obtain ⟨wm, hwm⟩ : ∃ n, n = zo + 1 := ⟨_, rfl⟩
   obtain ⟨ZN2, hZN2⟩ : ∃ Z, Z = ZN.set 6 (.int .i64 ((zo : Int) + 1)) := ⟨_, rfl⟩
   have hz2 : RZ { o with w := wm } (some ⟨gb, ob, none⟩) ZN2 := by
    obtain ⟨c, hc⟩ := hzn
    refine ⟨c, ?_⟩
    rw [hZN2, hc, hwm, hzo]
    rfl
   have NL2 := Lib.hid hz2.len
   have NO2 := Lib.hid hz2.one
   have SN := Lib.hid (show ZN.set 6 (.int .i64 ((zo : Int) + 1)) = ZN2 from hZN2.symm)
   have M5 : Hid (∃ c, ZN2[5]? = some (.slice (some ⟨gb, ob, none⟩) k c)) := Lib.hid (by
    obtain ⟨c, hc⟩ := hz2
    exact ⟨c, by rw [hc, ← HOK.out]; rfl⟩)
   obtain ⟨c5, hc5⟩ := M5.out
   have M5 := Lib.hid hc5
   clear hc5
   have M6 := Lib.hid (show ZN2[6]? = some (iv wm) by obtain ⟨c, hc⟩ := hz2; rw [hc]; rfl)
   have N6 := Lib.hid (show ZN[6]? = some (iv zo) by obtain ⟨c, hc⟩ := hzn; rw [hc, hzo]; rfl)
   have NL := Lib.hid hzn.len
   have CSE : Hid (∀ (xf : Zn) (M1 M : List At) (w : World), St w0 X (M1 ++ .rd (some ⟨gb, ob, none⟩) (ocs o.l) :: (M ++ L)) w → Calls Try.prog 84 #[.agg ZN2.toArray, .int .i64 (i : Int), .agg (oc xf).toArray] w fun e w' => Q1 w0 X (M1 ++ .rd (some ⟨gb, ob, none⟩) (ocs o.l) :: (M ++ L)) (putS { o with w := wm } i xf) e w') := Lib.hid (fun xf M1 M w hs => rset' (z := { o with w := wm }) hs (List.mem_append.2 (.inr List.mem_cons_self)) (OKW.out wm (by rw [hwm, hzo]; omega)) hz2 (by rw [show ({ o with w := wm } : Zs).l.length = k from HOK.out]; exact HIK.out) xf)
   have HRO : Hid (∀ (M1 M : List At), Reads (M1 ++ .rd (some ⟨gb, ob, none⟩) (ocs o.l) :: (M ++ L)) (some ⟨gb, ob + i * 3, none⟩) [iv st, iv p, iv rr]) := Lib.hid (fun M1 M => by
    have hil : i < o.l.length := by rw [HOK.out]; exact HIK.out
    have h := row_at (L := M1 ++ .rd (some ⟨gb, ob, none⟩) (ocs o.l) :: (M ++ L)) (Reads.rdm (List.mem_append.2 (.inr List.mem_cons_self))) hil
    rw [← getD_get hil, HOX.out] at h
    exact h)
   have FIN : Hid (∀ (xf : Zn), ({ st := if pn = cap then 14 else st, p := pn, r := wm } : Zn) = xf → putE z i n = (putS { o with w := wm } i xf, 0)) := Lib.hid (fun xf h => by
    rw [HPE.out, ← h, hwm, hzo, HCAP.out])
   clear hz2 hZN2 hzn hwm hzo
   have hwz : zo < 1099511627776 := HZO.out
   go_upto_region 13 with (first | ((with_reducible refine Se.isL (o := ⟨some 46, _, _, _, _, _⟩) ?_); (refine Se.toL rfl (Se.ld (o := ⟨some 46, _, _, _, _, _⟩) hs rfl rfl (Cell.blk 1 rfl N6.out) (by kernel_rfl) ?_))) | ((with_reducible refine Se.isL (o := ⟨none, _, _, _, _, _⟩) ?_); ((first | refine Se.toL rfl (Se.soq 1 (v := .int _ _) hs rfl rfl rfl rfl rfl (by kernel_rfl) ((by rw [NL.out]; decide)) (SN.out) ?_) | refine Se.toL rfl (Se.soq 1 (v := .bool _) hs rfl rfl rfl rfl rfl (by kernel_rfl) ((by rw [NL.out]; decide)) (SN.out) ?_) | refine Se.toL rfl (Se.soq 1 (v := .slice _ _ _) hs rfl rfl rfl rfl rfl (by kernel_rfl) ((by rw [NL.out]; decide)) (SN.out) ?_) | refine Se.toL rfl (Se.soq 1 (v := .pointer _) hs rfl rfl rfl rfl rfl (by kernel_rfl) ((by rw [NL.out]; decide)) (SN.out) ?_) | refine Se.toL rfl (Se.soq 1 (v := .string _) hs rfl rfl rfl rfl rfl (by kernel_rfl) ((by rw [NL.out]; decide)) (SN.out) ?_) | refine Se.toL rfl (Se.soq 1 (v := .map _) hs rfl rfl rfl rfl rfl (by kernel_rfl) ((by rw [NL.out]; decide)) (SN.out) ?_) | refine Se.toL rfl (Se.soq 1 (v := .func _ _ _) hs rfl rfl rfl rfl rfl (by kernel_rfl) ((by rw [NL.out]; decide)) (SN.out) ?_) | refine Se.toL rfl (Se.soq 1 (v := .nilFunc) hs rfl rfl rfl rfl rfl (by kernel_rfl) ((by rw [NL.out]; decide)) (SN.out) ?_)); clear hs; intro w hs; try simp only [List.cons_append, List.nil_append, List.set_cons_zero, List.set_cons_succ] at hs)) | ((with_reducible refine Se.isL (o := ⟨some 50, _, _, _, _, _⟩) ?_); (refine Se.toL rfl (Se.ld (o := ⟨some 50, _, _, _, _, _⟩) hs rfl rfl (Cell.blk 1 rfl M5.out) (by kernel_rfl) ?_))) | ((with_reducible refine Se.isL (o := ⟨some 53, _, _, _, _, _⟩) ?_); (refine Se.toL rfl (Se.ldw (o := ⟨some 53, _, _, _, _, _⟩) hs rfl rfl ((HRO.out [] [_, _, _])) ((by kernel_rfl)) (by kernel_rfl) ?_))) | ((with_reducible refine Se.isL (o := ⟨some 11, _, _, _, _, _⟩) ?_); (refine Se.toL rfl (Se.al (o := ⟨some 11, _, _, _, _, _⟩) hs rfl (zRo) ?_); clear hs; rintro w g11 - hs)) | ((with_reducible refine Se.isL (o := ⟨none, Op.store 67 _ _, _, _, _, _⟩) ?_); (refine Se.toL rfl (Se.sow 0 hs rfl rfl rfl rfl ((by simp [Value.oneCell'])) ((by kernel_rfl)) ((by rfl)) ?_); clear hs; intro w hs; try simp only [List.cons_append, List.nil_append, List.set_cons_zero] at hs)) | ((with_reducible refine Se.isL (o := ⟨some 55, _, _, _, _, _⟩) ?_); (refine Se.toL rfl (Se.ld (o := ⟨some 55, _, _, _, _, _⟩) hs rfl rfl (Cell.blk 0 rfl rfl) (by kernel_rfl) ?_))) | (go_at_call 78; refine Calls.mono (CO.out _ _ hs) ?_; clear hs; rintro e w ⟨rfl, hs⟩))
   refine Ch.region' 9 (fun wx => Blk wx g8 ZN2 43) (fun | 1 => true | 7 => true | _ => false) (by kernel_rfl) (by decide +kernel) (hs.drew.hold (.blk g8 43 ZN2) (by simp)) ?_
   replace hs := hs.drew
   generalize w.drew = w at hs ⊢
   change Ch.CW _ _ _ _ _ [0, 1, 2, 3, 4, 5, 6, 7, 8] _ _
   iterate 1 ((first | (refine Ch.pure (v := ?_) (by rfl) (by rfl) (by rfl) (fun wx hS => ?_) ?_; rotate_left; (focus (go_simp; (first | done | with_reducible rfl))))); (try simp only [Act.put, List.setIfInBounds_toArray, List.set_cons_zero, List.set_cons_succ]))
   refine Ch.noise (by rfl) (by rfl) (by rfl) (Se.ld hs rfl rfl (Cell.blk 0 rfl rfl) (by decide +kernel) ?_)
   refine ⟨hs.hold (.blk g8 43 ZN2) (by simp), ?_⟩
   (try simp only [Act.put, List.setIfInBounds_toArray, List.set_cons_zero, List.set_cons_succ])
   iterate 5 ((first | (refine Ch.pure (v := ?_) (by rfl) (by rfl) (by rfl) (fun wx hS => ?_) ?_; rotate_left; (focus (go_simp; (first | done | with_reducible rfl)))) | refine Ch.pure (v := _) (by rfl) (by rfl) (by rfl) (fun wx hS => Se.xl rfl rfl (by rw [hS.cell]; exact M6.out) (by decide +kernel)) ?_); (try simp only [Act.put, List.setIfInBounds_toArray, List.set_cons_zero, List.set_cons_succ]))
   refine Ch.noise (by rfl) (by rfl) (by rfl) (Se.so 0 (v := iv pn) hs rfl rfl rfl rfl rfl (by kernel_rfl) (by simp) ?_)
   clear hs
   intro w hs
   simp only [List.cons_append, List.nil_append, List.set_cons_zero, List.set_cons_succ] at hs
   refine ⟨hs.hold (.blk g8 43 ZN2) (by simp), ?_⟩
   (try simp only [Act.put, List.setIfInBounds_toArray, List.set_cons_zero, List.set_cons_succ])
   iterate 1 ((first | (refine Ch.pure (v := ?_) (by rfl) (by rfl) (by rfl) (fun wx hS => ?_) ?_; rotate_left; (focus (go_simp; (first | done | with_reducible rfl))))); (try simp only [Act.put, List.setIfInBounds_toArray, List.set_cons_zero, List.set_cons_succ]))
   refine Ch.done ?_
   try simp only [List.drop_succ_cons, List.drop_zero]
   by_cases hpc : pn = cap
   ·have f2 : ((pn : Int) == (cap : Int)) = true := by simp; omega
    have HF := Lib.hid (FIN.out { st := 14, p := pn, r := wm } (by rw [if_pos hpc]))
    have CS := Lib.hid (CSE.out { st := 14, p := pn, r := wm })
    clear FIN CSE hpc
    go_wp2_with (first | ((with_reducible refine Se.isL (o := ⟨some 68, _, _, _, _, _⟩) ?_); (refine Se.toL rfl (Se.ld (o := ⟨some 68, _, _, _, _, _⟩) hs rfl rfl (Cell.blk 0 rfl rfl) (by kernel_rfl) ?_))) | ((with_reducible refine Se.isL (o := ⟨some 71, _, _, _, _, _⟩) ?_); (refine Se.toL rfl (Se.ld (o := ⟨some 71, _, _, _, _, _⟩) hs rfl rfl (Cell.blk 4 rfl R2.out) (by kernel_rfl) ?_))) | ((with_reducible refine Se.isL (o := ⟨none, _, _, _, _, _⟩) ?_); ((first | refine Se.toL rfl (Se.so 0 (v := .int _ _) hs rfl rfl rfl rfl rfl (by kernel_rfl) (by simp) ?_) | refine Se.toL rfl (Se.so 0 (v := .bool _) hs rfl rfl rfl rfl rfl (by kernel_rfl) (by simp) ?_) | refine Se.toL rfl (Se.so 0 (v := .slice _ _ _) hs rfl rfl rfl rfl rfl (by kernel_rfl) (by simp) ?_) | refine Se.toL rfl (Se.so 0 (v := .pointer _) hs rfl rfl rfl rfl rfl (by kernel_rfl) (by simp) ?_) | refine Se.toL rfl (Se.so 0 (v := .string _) hs rfl rfl rfl rfl rfl (by kernel_rfl) (by simp) ?_) | refine Se.toL rfl (Se.so 0 (v := .map _) hs rfl rfl rfl rfl rfl (by kernel_rfl) (by simp) ?_) | refine Se.toL rfl (Se.so 0 (v := .func _ _ _) hs rfl rfl rfl rfl rfl (by kernel_rfl) (by simp) ?_) | refine Se.toL rfl (Se.so 0 (v := .nilFunc) hs rfl rfl rfl rfl rfl (by kernel_rfl) (by simp) ?_)); clear hs; intro w hs; try simp only [List.cons_append, List.nil_append, List.set_cons_zero] at hs)) | ((with_reducible refine Se.isL (o := ⟨some 74, _, _, _, _, _⟩) ?_); (refine Se.toL rfl (Se.ldw (o := ⟨some 74, _, _, _, _, _⟩) hs rfl rfl ((Reads.blk 2 rfl)) ((by rw [NL2.out]; kernel_rfl)) (by kernel_rfl) ?_))) | ((with_reducible refine Se.isL (o := ⟨some 76, _, _, _, _, _⟩) ?_); (refine Se.toL rfl (Se.ldw (o := ⟨some 76, _, _, _, _, _⟩) hs rfl rfl ((Reads.blk 0 rfl)) ((by kernel_rfl)) (by kernel_rfl) ?_))) | ((with_reducible refine Se.isL (o := ⟨none, Op.store 43 _ _, _, _, _, _⟩) ?_); (refine Se.toL rfl (Se.sow 4 hs rfl rfl rfl rfl (hzf.one) ((by rw [hzf.len]; kernel_rfl)) ((by rw [hzf.len, ZL0.out])) ?_); clear hs; intro w hs; try simp only [List.cons_append, List.nil_append, List.set_cons_zero, List.set_cons_succ] at hs)) | (go_at_call 84; refine Calls.mono (CS.out [_] [_, _, _] _ hs) ?_; clear hs; rintro e w ⟨A', ZF, rfl, hzf, hs⟩))
    refine Se.ret hs [.agg ZF.toArray, .int .i64 0] rfl ⟨Se.resRow rfl (Reads.blk 4 rfl) (by kernel_rfl) (by rw [hzf.len] <;> kernel_rfl), rfl, trivial⟩ (by simp) rfl ?_
    refine ⟨trivial, ?_⟩
    rw [HF.out]
    exact ⟨A', ZF, rfl, hzf, hs.sub (List.Sublist.cons_cons _ (.cons _ (.cons _ (.cons _ (.cons _ (.cons _ (List.Sublist.refl _))))))) ⟩
   ·have f2 : ((pn : Int) == (cap : Int)) = false := by simp; omega
    have HF := Lib.hid (FIN.out { st := st, p := pn, r := wm } (by rw [if_neg hpc]))
    have CS := Lib.hid (CSE.out { st := st, p := pn, r := wm })
    clear FIN CSE hpc
    go_wp2_with (first | ((with_reducible refine Se.isL (o := ⟨some 68, _, _, _, _, _⟩) ?_); (refine Se.toL rfl (Se.ld (o := ⟨some 68, _, _, _, _, _⟩) hs rfl rfl (Cell.blk 0 rfl rfl) (by kernel_rfl) ?_))) | ((with_reducible refine Se.isL (o := ⟨some 71, _, _, _, _, _⟩) ?_); (refine Se.toL rfl (Se.ld (o := ⟨some 71, _, _, _, _, _⟩) hs rfl rfl (Cell.blk 4 rfl R2.out) (by kernel_rfl) ?_))) | ((with_reducible refine Se.isL (o := ⟨none, _, _, _, _, _⟩) ?_); ((first | refine Se.toL rfl (Se.so 0 (v := .int _ _) hs rfl rfl rfl rfl rfl (by kernel_rfl) (by simp) ?_) | refine Se.toL rfl (Se.so 0 (v := .bool _) hs rfl rfl rfl rfl rfl (by kernel_rfl) (by simp) ?_) | refine Se.toL rfl (Se.so 0 (v := .slice _ _ _) hs rfl rfl rfl rfl rfl (by kernel_rfl) (by simp) ?_) | refine Se.toL rfl (Se.so 0 (v := .pointer _) hs rfl rfl rfl rfl rfl (by kernel_rfl) (by simp) ?_) | refine Se.toL rfl (Se.so 0 (v := .string _) hs rfl rfl rfl rfl rfl (by kernel_rfl) (by simp) ?_) | refine Se.toL rfl (Se.so 0 (v := .map _) hs rfl rfl rfl rfl rfl (by kernel_rfl) (by simp) ?_) | refine Se.toL rfl (Se.so 0 (v := .func _ _ _) hs rfl rfl rfl rfl rfl (by kernel_rfl) (by simp) ?_) | refine Se.toL rfl (Se.so 0 (v := .nilFunc) hs rfl rfl rfl rfl rfl (by kernel_rfl) (by simp) ?_)); clear hs; intro w hs; try simp only [List.cons_append, List.nil_append, List.set_cons_zero] at hs)) | ((with_reducible refine Se.isL (o := ⟨some 74, _, _, _, _, _⟩) ?_); (refine Se.toL rfl (Se.ldw (o := ⟨some 74, _, _, _, _, _⟩) hs rfl rfl ((Reads.blk 2 rfl)) ((by rw [NL2.out]; kernel_rfl)) (by kernel_rfl) ?_))) | ((with_reducible refine Se.isL (o := ⟨some 76, _, _, _, _, _⟩) ?_); (refine Se.toL rfl (Se.ldw (o := ⟨some 76, _, _, _, _, _⟩) hs rfl rfl ((Reads.blk 0 rfl)) ((by kernel_rfl)) (by kernel_rfl) ?_))) | ((with_reducible refine Se.isL (o := ⟨none, Op.store 43 _ _, _, _, _, _⟩) ?_); (refine Se.toL rfl (Se.sow 4 hs rfl rfl rfl rfl (hzf.one) ((by rw [hzf.len]; kernel_rfl)) ((by rw [hzf.len, ZL0.out])) ?_); clear hs; intro w hs; try simp only [List.cons_append, List.nil_append, List.set_cons_zero, List.set_cons_succ] at hs)) | (go_at_call 84; refine Calls.mono (CS.out [_] [_, _, _] _ hs) ?_; clear hs; rintro e w ⟨A', ZF, rfl, hzf, hs⟩))
    refine Se.ret hs [.agg ZF.toArray, .int .i64 0] rfl ⟨Se.resRow rfl (Reads.blk 4 rfl) (by kernel_rfl) (by rw [hzf.len] <;> kernel_rfl), rfl, trivial⟩ (by simp) rfl ?_
    refine ⟨trivial, ?_⟩
    rw [HF.out]
    exact ⟨A', ZF, rfl, hzf, hs.sub (List.Sublist.cons_cons _ (.cons _ (.cons _ (.cons _ (.cons _ (.cons _ (List.Sublist.refl _))))))) ⟩
 | false =>
  have HOX0 := Lib.hid (HQX.out rfl)
  obtain ⟨q, hq⟩ : ∃ q, q = opensE z i := ⟨_, rfl⟩
  rw [← hq] at HOX0 HPF HPB CQ HOP
  have HPF1 := Lib.hid (fun h => HPF.out HNB.out rfl h)
  have HPB1 := Lib.hid (fun h => HPB.out HNB.out rfl h)
  clear hq HPF HPB HPT HQX
  go_upto_region 6 with (first | ((with_reducible refine Se.isL (o := ⟨some 25, _, _, _, _, _⟩) ?_); (refine Se.toL rfl (Se.ldw (o := ⟨some 25, _, _, _, _, _⟩) hs rfl rfl ((Reads.blk 1 rfl)) ((by rw [RLL.out]; kernel_rfl)) (by kernel_rfl) ?_))) | ((with_reducible refine Se.isL (o := ⟨some 8, _, _, _, _, _⟩) ?_); (refine Se.toL rfl (Se.al (o := ⟨some 8, _, _, _, _, _⟩) hs rfl (zRz'.out) ?_); clear hs; rintro w g8 - hs)) | ((with_reducible refine Se.isL (o := ⟨none, _, _, _, _, _⟩) ?_); (refine Se.toL rfl (Se.sow 0 hs rfl rfl rfl rfl (RLO.out) ((by rw [RLL.out]; kernel_rfl)) ((by rw [RLL.out, ZL0.out])) ?_); clear hs; intro w hs; try simp only [List.cons_append, List.nil_append, List.set_cons_zero] at hs)) | ((with_reducible refine Se.isL (o := ⟨some 27, _, _, _, _, _⟩) ?_); (refine Se.toL rfl (Se.ld (o := ⟨some 27, _, _, _, _, _⟩) hs rfl rfl (Cell.blk 2 rfl R5.out) (by kernel_rfl) ?_))) | ((with_reducible refine Se.isL (o := ⟨some 31, _, _, _, _, _⟩) ?_); (refine Se.toL rfl (Se.ld (o := ⟨some 31, _, _, _, _, _⟩) hs rfl rfl ((capp [_, _, _] C0.out)) (by kernel_rfl) ?_))) | ((with_reducible refine Se.isL (o := ⟨some 35, _, _, _, _, _⟩) ?_); (refine Se.toL rfl (Se.ldw (o := ⟨some 35, _, _, _, _, _⟩) hs rfl rfl ((Reads.blk 2 rfl)) ((by rw [RLL.out]; kernel_rfl)) (by kernel_rfl) ?_))) | ((with_reducible refine Se.isL (o := ⟨some 9, _, _, _, _, _⟩) ?_); (refine Se.toL rfl (Se.al (o := ⟨some 9, _, _, _, _, _⟩) hs rfl (zRz'.out) ?_); clear hs; rintro w g9 - hs)) | ((with_reducible refine Se.isL (o := ⟨none, _, _, _, _, _⟩) ?_); (refine Se.toL rfl (Se.sow 0 hs rfl rfl rfl rfl (hzn.one) ((by rw [hzn.len]; kernel_rfl)) ((by rw [hzn.len, ZL0.out])) ?_); clear hs; intro w hs; try simp only [List.cons_append, List.nil_append, List.set_cons_zero] at hs)) | (go_at_call 78; refine Calls.mono (CO.out _ _ hs) ?_; clear hs; rintro e w ⟨rfl, hs⟩) | (go_at_call 83; refine Calls.mono (CQ.out [_, _, _] _ hs) ?_; clear hs; rintro e w ⟨-, A', ZN, rfl, hzn, hs⟩))
  by_cases hq0 : q.2 = 0
  rotate_left
  ·have vq : ((q.2 : Int) != 0) = true := by simp; omega
   have HB := Lib.hid (HPB1.out hq0)
   obtain ⟨c2, hc2⟩ : ∃ c, c = q.2 := ⟨_, rfl⟩
   rw [← hc2] at vq HB ⊢
   clear hq0 HPF1 HPB1 hc2
   go_wp2_with (first | ((with_reducible refine Se.isL (o := ⟨some 42, _, _, _, _, _⟩) ?_); (refine Se.toL rfl (Se.ldw (o := ⟨some 42, _, _, _, _, _⟩) hs rfl rfl ((Reads.blk 4 rfl)) ((by rw [RLL.out]; kernel_rfl)) (by kernel_rfl) ?_))) | ((with_reducible refine Se.isL (o := ⟨none, _, _, _, _, _⟩) ?_); (refine Se.toL rfl (Se.sow 3 hs rfl rfl rfl rfl (RLO.out) ((by rw [RLL.out]; kernel_rfl)) ((by rw [RLL.out, ZL0.out])) ?_); clear hs; intro w hs; try simp only [List.cons_append, List.nil_append, List.set_cons_zero, List.set_cons_succ] at hs)))
   refine Se.ret hs [.agg RL.toArray, .int .i64 (c2 : Int)] rfl ⟨Se.resRow rfl (Reads.blk 3 rfl) (by kernel_rfl) (by rw [RLL.out] <;> kernel_rfl), rfl, trivial⟩ (by simp) rfl ?_
   exact ⟨trivial, SAME.out c2 HB.out _ hs.drop.drop.drop.drop.drop⟩
  have HPE := Lib.hid (HPF1.out hq0)
  have vq : ((q.2 : Int) != 0) = false := by simp; omega
  obtain ⟨c2, hc2⟩ : ∃ c, c = q.2 := ⟨_, rfl⟩
  rw [← hc2] at vq ⊢
  have HNL := Lib.hid hzn.len
  have HNO := Lib.hid hzn.one
  clear hq0 HPF1 HPB1 hc2
  go_upto_region 9 with (first | ((with_reducible refine Se.isL (o := ⟨some 44, _, _, _, _, _⟩) ?_); (refine Se.toL rfl (Se.ldw (o := ⟨some 44, _, _, _, _, _⟩) hs rfl rfl ((Reads.blk 0 rfl)) ((by rw [HNL.out]; kernel_rfl)) (by kernel_rfl) ?_))) | ((with_reducible refine Se.isL (o := ⟨none, _, _, _, _, _⟩) ?_); (refine Se.toL rfl (Se.sow 2 hs rfl rfl rfl rfl (HNO.out) ((by rw [HNL.out]; kernel_rfl)) ((by rw [HNL.out, RLL.out])) ?_); clear hs; intro w hs; try simp only [List.cons_append, List.nil_append, List.set_cons_zero, List.set_cons_succ] at hs)))
  replace hs := hs.drop
  obtain ⟨o, hoo⟩ : ∃ o, o = q.1 := ⟨_, rfl⟩
  rw [← hoo] at hs hzn HPE HOX0 HOP
  have HOK := Lib.hid (show o.l.length = k by rw [HOP.out.2.2.2, HKZ.out])
  obtain ⟨gb, ob, rfl, _, _⟩ := (hs.hold _ List.mem_cons_self).cells (ocs_ne (by rw [HOK.out]; exact hk0))
  have HOX := Lib.hid (show o.l.getD i dz = ⟨st, p, rr⟩ by rw [HOX0.out]; have h := HXO.out; simp only [oc, List.cons.injEq, Value.int.injEq, Int.natCast_inj, true_and, and_true] at h; obtain ⟨h1, h2, h3⟩ := h; rw [← h1, ← h2, ← h3])
  have HCAP := Lib.hid (show cap = o.c.cap by rw [HOP.out.2.1, HCZ.out])
  have OKW : Hid (∀ wm, o.w ≤ wm → OkZ { o with w := wm }) := Lib.hid (fun wm h => by
   obtain ⟨a0, a1, a2, a3, a4, a5, a6, a7, a8, a9⟩ := HOP.out.1
   exact ⟨a0, a1, a2, a3, a4, a5, a6, a7, a8, fun y hy => by have := a9 y hy; dsimp only; omega⟩)
  obtain ⟨zo, hzo⟩ : ∃ n, n = o.w := ⟨_, rfl⟩
  have HZO := Lib.hid (show zo < 1099511627776 by rw [hzo, HOP.out.2.2.1]; exact HWZ.out)
  have HPE : Hid (putE z i n = (putS { o with w := o.w + 1 } i { st := if pn = o.c.cap then 14 else 2, p := pn, r := o.w + 1 }, 0)) := Lib.hid (by rw [HPE.out]; unfold putF putS; dsimp only; rw [HPN.out])
  clear CQ hoo SAME vq HOX0
  focus
   obtain ⟨wm, hwm⟩ : ∃ n, n = zo + 1 := ⟨_, rfl⟩
   obtain ⟨ZN2, hZN2⟩ : ∃ Z, Z = ZN.set 6 (.int .i64 ((zo : Int) + 1)) := ⟨_, rfl⟩
   have hz2 : RZ { o with w := wm } (some ⟨gb, ob, none⟩) ZN2 := by
    obtain ⟨c, hc⟩ := hzn
    refine ⟨c, ?_⟩
    rw [hZN2, hc, hwm, hzo]
    rfl
   have NL2 := Lib.hid hz2.len
   have NO2 := Lib.hid hz2.one
   have SN := Lib.hid (show ZN.set 6 (.int .i64 ((zo : Int) + 1)) = ZN2 from hZN2.symm)
   have M5 : Hid (∃ c, ZN2[5]? = some (.slice (some ⟨gb, ob, none⟩) k c)) := Lib.hid (by
    obtain ⟨c, hc⟩ := hz2
    exact ⟨c, by rw [hc, ← HOK.out]; rfl⟩)
   obtain ⟨c5, hc5⟩ := M5.out
   have M5 := Lib.hid hc5
   clear hc5
   have M6 := Lib.hid (show ZN2[6]? = some (iv wm) by obtain ⟨c, hc⟩ := hz2; rw [hc]; rfl)
   have N6 := Lib.hid (show ZN[6]? = some (iv zo) by obtain ⟨c, hc⟩ := hzn; rw [hc, hzo]; rfl)
   have NL := Lib.hid hzn.len
   have CSE : Hid (∀ (xf : Zn) (M1 M : List At) (w : World), St w0 X (M1 ++ .rd (some ⟨gb, ob, none⟩) (ocs o.l) :: (M ++ L)) w → Calls Try.prog 84 #[.agg ZN2.toArray, .int .i64 (i : Int), .agg (oc xf).toArray] w fun e w' => Q1 w0 X (M1 ++ .rd (some ⟨gb, ob, none⟩) (ocs o.l) :: (M ++ L)) (putS { o with w := wm } i xf) e w') := Lib.hid (fun xf M1 M w hs => rset' (z := { o with w := wm }) hs (List.mem_append.2 (.inr List.mem_cons_self)) (OKW.out wm (by rw [hwm, hzo]; omega)) hz2 (by rw [show ({ o with w := wm } : Zs).l.length = k from HOK.out]; exact HIK.out) xf)
   have HRO : Hid (∀ (M1 M : List At), Reads (M1 ++ .rd (some ⟨gb, ob, none⟩) (ocs o.l) :: (M ++ L)) (some ⟨gb, ob + i * 3, none⟩) [iv st, iv p, iv rr]) := Lib.hid (fun M1 M => by
    have hil : i < o.l.length := by rw [HOK.out]; exact HIK.out
    have h := row_at (L := M1 ++ .rd (some ⟨gb, ob, none⟩) (ocs o.l) :: (M ++ L)) (Reads.rdm (List.mem_append.2 (.inr List.mem_cons_self))) hil
    rw [← getD_get hil, HOX.out] at h
    exact h)
   have FIN : Hid (∀ (xf : Zn), ({ st := if pn = cap then 14 else 2, p := pn, r := wm } : Zn) = xf → putE z i n = (putS { o with w := wm } i xf, 0)) := Lib.hid (fun xf h => by
    rw [HPE.out, ← h, hwm, hzo, HCAP.out])
   clear hz2 hZN2 hzn hwm hzo
   have hwz : zo < 1099511627776 := HZO.out
   go_upto_region 13 with (first | ((with_reducible refine Se.isL (o := ⟨some 46, _, _, _, _, _⟩) ?_); (refine Se.toL rfl (Se.ld (o := ⟨some 46, _, _, _, _, _⟩) hs rfl rfl (Cell.blk 1 rfl N6.out) (by kernel_rfl) ?_))) | ((with_reducible refine Se.isL (o := ⟨none, _, _, _, _, _⟩) ?_); ((first | refine Se.toL rfl (Se.soq 1 (v := .int _ _) hs rfl rfl rfl rfl rfl (by kernel_rfl) ((by rw [NL.out]; decide)) (SN.out) ?_) | refine Se.toL rfl (Se.soq 1 (v := .bool _) hs rfl rfl rfl rfl rfl (by kernel_rfl) ((by rw [NL.out]; decide)) (SN.out) ?_) | refine Se.toL rfl (Se.soq 1 (v := .slice _ _ _) hs rfl rfl rfl rfl rfl (by kernel_rfl) ((by rw [NL.out]; decide)) (SN.out) ?_) | refine Se.toL rfl (Se.soq 1 (v := .pointer _) hs rfl rfl rfl rfl rfl (by kernel_rfl) ((by rw [NL.out]; decide)) (SN.out) ?_) | refine Se.toL rfl (Se.soq 1 (v := .string _) hs rfl rfl rfl rfl rfl (by kernel_rfl) ((by rw [NL.out]; decide)) (SN.out) ?_) | refine Se.toL rfl (Se.soq 1 (v := .map _) hs rfl rfl rfl rfl rfl (by kernel_rfl) ((by rw [NL.out]; decide)) (SN.out) ?_) | refine Se.toL rfl (Se.soq 1 (v := .func _ _ _) hs rfl rfl rfl rfl rfl (by kernel_rfl) ((by rw [NL.out]; decide)) (SN.out) ?_) | refine Se.toL rfl (Se.soq 1 (v := .nilFunc) hs rfl rfl rfl rfl rfl (by kernel_rfl) ((by rw [NL.out]; decide)) (SN.out) ?_)); clear hs; intro w hs; try simp only [List.cons_append, List.nil_append, List.set_cons_zero, List.set_cons_succ] at hs)) | ((with_reducible refine Se.isL (o := ⟨some 50, _, _, _, _, _⟩) ?_); (refine Se.toL rfl (Se.ld (o := ⟨some 50, _, _, _, _, _⟩) hs rfl rfl (Cell.blk 1 rfl M5.out) (by kernel_rfl) ?_))) | ((with_reducible refine Se.isL (o := ⟨some 53, _, _, _, _, _⟩) ?_); (refine Se.toL rfl (Se.ldw (o := ⟨some 53, _, _, _, _, _⟩) hs rfl rfl ((HRO.out [] [_, _, _])) ((by kernel_rfl)) (by kernel_rfl) ?_))) | ((with_reducible refine Se.isL (o := ⟨some 11, _, _, _, _, _⟩) ?_); (refine Se.toL rfl (Se.al (o := ⟨some 11, _, _, _, _, _⟩) hs rfl (zRo) ?_); clear hs; rintro w g11 - hs)) | ((with_reducible refine Se.isL (o := ⟨none, Op.store 67 _ _, _, _, _, _⟩) ?_); (refine Se.toL rfl (Se.sow 0 hs rfl rfl rfl rfl ((by simp [Value.oneCell'])) ((by kernel_rfl)) ((by rfl)) ?_); clear hs; intro w hs; try simp only [List.cons_append, List.nil_append, List.set_cons_zero] at hs)) | ((with_reducible refine Se.isL (o := ⟨some 55, _, _, _, _, _⟩) ?_); (refine Se.toL rfl (Se.ld (o := ⟨some 55, _, _, _, _, _⟩) hs rfl rfl (Cell.blk 0 rfl rfl) (by kernel_rfl) ?_))) | ((with_reducible refine Se.isL (o := ⟨none, _, _, _, _, _⟩) ?_); ((first | refine Se.toL rfl (Se.so 0 (v := .int _ _) hs rfl rfl rfl rfl rfl (by kernel_rfl) (by simp) ?_) | refine Se.toL rfl (Se.so 0 (v := .bool _) hs rfl rfl rfl rfl rfl (by kernel_rfl) (by simp) ?_) | refine Se.toL rfl (Se.so 0 (v := .slice _ _ _) hs rfl rfl rfl rfl rfl (by kernel_rfl) (by simp) ?_) | refine Se.toL rfl (Se.so 0 (v := .pointer _) hs rfl rfl rfl rfl rfl (by kernel_rfl) (by simp) ?_) | refine Se.toL rfl (Se.so 0 (v := .string _) hs rfl rfl rfl rfl rfl (by kernel_rfl) (by simp) ?_) | refine Se.toL rfl (Se.so 0 (v := .map _) hs rfl rfl rfl rfl rfl (by kernel_rfl) (by simp) ?_) | refine Se.toL rfl (Se.so 0 (v := .func _ _ _) hs rfl rfl rfl rfl rfl (by kernel_rfl) (by simp) ?_) | refine Se.toL rfl (Se.so 0 (v := .nilFunc) hs rfl rfl rfl rfl rfl (by kernel_rfl) (by simp) ?_)); clear hs; intro w hs; try simp only [List.cons_append, List.nil_append, List.set_cons_zero] at hs)) | (go_at_call 78; refine Calls.mono (CO.out _ _ hs) ?_; clear hs; rintro e w ⟨rfl, hs⟩))
   refine Ch.region' 9 (fun wx => Blk wx g8 ZN2 43) (fun | 1 => true | 7 => true | _ => false) (by kernel_rfl) (by decide +kernel) (hs.drew.hold (.blk g8 43 ZN2) (by simp)) ?_
   replace hs := hs.drew
   generalize w.drew = w at hs ⊢
   change Ch.CW _ _ _ _ _ [0, 1, 2, 3, 4, 5, 6, 7, 8] _ _
   iterate 1 ((first | (refine Ch.pure (v := ?_) (by rfl) (by rfl) (by rfl) (fun wx hS => ?_) ?_; rotate_left; (focus (go_simp; (first | done | with_reducible rfl))))); (try simp only [Act.put, List.setIfInBounds_toArray, List.set_cons_zero, List.set_cons_succ]))
   refine Ch.noise (by rfl) (by rfl) (by rfl) (Se.ld hs rfl rfl (Cell.blk 0 rfl rfl) (by decide +kernel) ?_)
   refine ⟨hs.hold (.blk g8 43 ZN2) (by simp), ?_⟩
   (try simp only [Act.put, List.setIfInBounds_toArray, List.set_cons_zero, List.set_cons_succ])
   iterate 5 ((first | (refine Ch.pure (v := ?_) (by rfl) (by rfl) (by rfl) (fun wx hS => ?_) ?_; rotate_left; (focus (go_simp; (first | done | with_reducible rfl)))) | refine Ch.pure (v := _) (by rfl) (by rfl) (by rfl) (fun wx hS => Se.xl rfl rfl (by rw [hS.cell]; exact M6.out) (by decide +kernel)) ?_); (try simp only [Act.put, List.setIfInBounds_toArray, List.set_cons_zero, List.set_cons_succ]))
   refine Ch.noise (by rfl) (by rfl) (by rfl) (Se.so 0 (v := iv pn) hs rfl rfl rfl rfl rfl (by kernel_rfl) (by simp) ?_)
   clear hs
   intro w hs
   simp only [List.cons_append, List.nil_append, List.set_cons_zero, List.set_cons_succ] at hs
   refine ⟨hs.hold (.blk g8 43 ZN2) (by simp), ?_⟩
   (try simp only [Act.put, List.setIfInBounds_toArray, List.set_cons_zero, List.set_cons_succ])
   iterate 1 ((first | (refine Ch.pure (v := ?_) (by rfl) (by rfl) (by rfl) (fun wx hS => ?_) ?_; rotate_left; (focus (go_simp; (first | done | with_reducible rfl))))); (try simp only [Act.put, List.setIfInBounds_toArray, List.set_cons_zero, List.set_cons_succ]))
   refine Ch.done ?_
   try simp only [List.drop_succ_cons, List.drop_zero]
   by_cases hpc : pn = cap
   ·have f2 : ((pn : Int) == (cap : Int)) = true := by simp; omega
    have HF := Lib.hid (FIN.out { st := 14, p := pn, r := wm } (by rw [if_pos hpc]))
    have CS := Lib.hid (CSE.out { st := 14, p := pn, r := wm })
    clear FIN CSE hpc
    go_wp2_with (first | ((with_reducible refine Se.isL (o := ⟨some 68, _, _, _, _, _⟩) ?_); (refine Se.toL rfl (Se.ld (o := ⟨some 68, _, _, _, _, _⟩) hs rfl rfl (Cell.blk 0 rfl rfl) (by kernel_rfl) ?_))) | ((with_reducible refine Se.isL (o := ⟨some 71, _, _, _, _, _⟩) ?_); (refine Se.toL rfl (Se.ld (o := ⟨some 71, _, _, _, _, _⟩) hs rfl rfl (Cell.blk 4 rfl R2.out) (by kernel_rfl) ?_))) | ((with_reducible refine Se.isL (o := ⟨none, _, _, _, _, _⟩) ?_); ((first | refine Se.toL rfl (Se.so 0 (v := .int _ _) hs rfl rfl rfl rfl rfl (by kernel_rfl) (by simp) ?_) | refine Se.toL rfl (Se.so 0 (v := .bool _) hs rfl rfl rfl rfl rfl (by kernel_rfl) (by simp) ?_) | refine Se.toL rfl (Se.so 0 (v := .slice _ _ _) hs rfl rfl rfl rfl rfl (by kernel_rfl) (by simp) ?_) | refine Se.toL rfl (Se.so 0 (v := .pointer _) hs rfl rfl rfl rfl rfl (by kernel_rfl) (by simp) ?_) | refine Se.toL rfl (Se.so 0 (v := .string _) hs rfl rfl rfl rfl rfl (by kernel_rfl) (by simp) ?_) | refine Se.toL rfl (Se.so 0 (v := .map _) hs rfl rfl rfl rfl rfl (by kernel_rfl) (by simp) ?_) | refine Se.toL rfl (Se.so 0 (v := .func _ _ _) hs rfl rfl rfl rfl rfl (by kernel_rfl) (by simp) ?_) | refine Se.toL rfl (Se.so 0 (v := .nilFunc) hs rfl rfl rfl rfl rfl (by kernel_rfl) (by simp) ?_)); clear hs; intro w hs; try simp only [List.cons_append, List.nil_append, List.set_cons_zero] at hs)) | ((with_reducible refine Se.isL (o := ⟨some 74, _, _, _, _, _⟩) ?_); (refine Se.toL rfl (Se.ldw (o := ⟨some 74, _, _, _, _, _⟩) hs rfl rfl ((Reads.blk 2 rfl)) ((by rw [NL2.out]; kernel_rfl)) (by kernel_rfl) ?_))) | ((with_reducible refine Se.isL (o := ⟨some 76, _, _, _, _, _⟩) ?_); (refine Se.toL rfl (Se.ldw (o := ⟨some 76, _, _, _, _, _⟩) hs rfl rfl ((Reads.blk 0 rfl)) ((by kernel_rfl)) (by kernel_rfl) ?_))) | ((with_reducible refine Se.isL (o := ⟨none, Op.store 43 _ _, _, _, _, _⟩) ?_); (refine Se.toL rfl (Se.sow 4 hs rfl rfl rfl rfl (hzf.one) ((by rw [hzf.len]; kernel_rfl)) ((by rw [hzf.len, ZL0.out])) ?_); clear hs; intro w hs; try simp only [List.cons_append, List.nil_append, List.set_cons_zero, List.set_cons_succ] at hs)) | (go_at_call 84; refine Calls.mono (CS.out [_] [_, _, _] _ hs) ?_; clear hs; rintro e w ⟨A', ZF, rfl, hzf, hs⟩))
    refine Se.ret hs [.agg ZF.toArray, .int .i64 0] rfl ⟨Se.resRow rfl (Reads.blk 4 rfl) (by kernel_rfl) (by rw [hzf.len] <;> kernel_rfl), rfl, trivial⟩ (by simp) rfl ?_
    refine ⟨trivial, ?_⟩
    rw [HF.out]
    exact ⟨A', ZF, rfl, hzf, hs.sub (List.Sublist.cons_cons _ (.cons _ (.cons _ (.cons _ (.cons _ (.cons _ (List.Sublist.refl _))))))) ⟩
   ·have f2 : ((pn : Int) == (cap : Int)) = false := by simp; omega
    have HF := Lib.hid (FIN.out { st := (2 : Nat), p := pn, r := wm } (by rw [if_neg hpc]))
    have CS := Lib.hid (CSE.out { st := (2 : Nat), p := pn, r := wm })
    clear FIN CSE hpc
    go_wp2_with (first | ((with_reducible refine Se.isL (o := ⟨some 68, _, _, _, _, _⟩) ?_); (refine Se.toL rfl (Se.ld (o := ⟨some 68, _, _, _, _, _⟩) hs rfl rfl (Cell.blk 0 rfl rfl) (by kernel_rfl) ?_))) | ((with_reducible refine Se.isL (o := ⟨some 71, _, _, _, _, _⟩) ?_); (refine Se.toL rfl (Se.ld (o := ⟨some 71, _, _, _, _, _⟩) hs rfl rfl (Cell.blk 4 rfl R2.out) (by kernel_rfl) ?_))) | ((with_reducible refine Se.isL (o := ⟨none, _, _, _, _, _⟩) ?_); ((first | refine Se.toL rfl (Se.so 0 (v := .int _ _) hs rfl rfl rfl rfl rfl (by kernel_rfl) (by simp) ?_) | refine Se.toL rfl (Se.so 0 (v := .bool _) hs rfl rfl rfl rfl rfl (by kernel_rfl) (by simp) ?_) | refine Se.toL rfl (Se.so 0 (v := .slice _ _ _) hs rfl rfl rfl rfl rfl (by kernel_rfl) (by simp) ?_) | refine Se.toL rfl (Se.so 0 (v := .pointer _) hs rfl rfl rfl rfl rfl (by kernel_rfl) (by simp) ?_) | refine Se.toL rfl (Se.so 0 (v := .string _) hs rfl rfl rfl rfl rfl (by kernel_rfl) (by simp) ?_) | refine Se.toL rfl (Se.so 0 (v := .map _) hs rfl rfl rfl rfl rfl (by kernel_rfl) (by simp) ?_) | refine Se.toL rfl (Se.so 0 (v := .func _ _ _) hs rfl rfl rfl rfl rfl (by kernel_rfl) (by simp) ?_) | refine Se.toL rfl (Se.so 0 (v := .nilFunc) hs rfl rfl rfl rfl rfl (by kernel_rfl) (by simp) ?_)); clear hs; intro w hs; try simp only [List.cons_append, List.nil_append, List.set_cons_zero] at hs)) | ((with_reducible refine Se.isL (o := ⟨some 74, _, _, _, _, _⟩) ?_); (refine Se.toL rfl (Se.ldw (o := ⟨some 74, _, _, _, _, _⟩) hs rfl rfl ((Reads.blk 2 rfl)) ((by rw [NL2.out]; kernel_rfl)) (by kernel_rfl) ?_))) | ((with_reducible refine Se.isL (o := ⟨some 76, _, _, _, _, _⟩) ?_); (refine Se.toL rfl (Se.ldw (o := ⟨some 76, _, _, _, _, _⟩) hs rfl rfl ((Reads.blk 0 rfl)) ((by kernel_rfl)) (by kernel_rfl) ?_))) | ((with_reducible refine Se.isL (o := ⟨none, Op.store 43 _ _, _, _, _, _⟩) ?_); (refine Se.toL rfl (Se.sow 4 hs rfl rfl rfl rfl (hzf.one) ((by rw [hzf.len]; kernel_rfl)) ((by rw [hzf.len, ZL0.out])) ?_); clear hs; intro w hs; try simp only [List.cons_append, List.nil_append, List.set_cons_zero, List.set_cons_succ] at hs)) | (go_at_call 84; refine Calls.mono (CS.out [_] [_, _, _] _ hs) ?_; clear hs; rintro e w ⟨A', ZF, rfl, hzf, hs⟩))
    refine Se.ret hs [.agg ZF.toArray, .int .i64 0] rfl ⟨Se.resRow rfl (Reads.blk 4 rfl) (by kernel_rfl) (by rw [hzf.len] <;> kernel_rfl), rfl, trivial⟩ (by simp) rfl ?_
    refine ⟨trivial, ?_⟩
    rw [HF.out]
    exact ⟨A', ZF, rfl, hzf, hs.sub (List.Sublist.cons_cons _ (.cons _ (.cons _ (.cons _ (.cons _ (.cons _ (List.Sublist.refl _))))))) ⟩
end Zo
end Go.Proofs.Ythpgkkfahiglnaa


/- Layer 28's reference: Manage, ManageAll. No condition but Go's own limits. Printed by wip/gen_zoner8.py. -/
import Derived.Test.YthpgkkfahiglnaaZoneR7
import Derived.Test.YthpgkkfahiglnaaZoneAll
set_option maxRecDepth 100000
set_option maxHeartbeats 4000000
set_option linter.unusedSimpArgs false
set_option linter.unusedVariables false
namespace Go.Proofs.Ythpgkkfahiglnaa
open Go Go.RowKit
namespace Zo
open Se (St At Reads Cell)
open Li (Rd Blk Fr)
variable {w0 w : World} {X : List Nat} {L : List At}
attribute [local irreducible] Calls
attribute [local go_sem] eql_nil
theorem rmanage_st {z : Zs} {A : Option Addr} {ZI : List Value} (hs : St w0 X L w) (hm : At.rd A (ocs z.l) ∈ L) (ho : OkZ z) (hz : RZ z A ZI) (i a : Int) :
  Calls Try.prog 50 #[.agg ZI.toArray, .int .i64 i, .int .i64 a] w fun e w' => True ∧ QR w0 X L (manageE z i a) e w' := by
 by_cases hb : i < 0 ∨ z.l.length ≤ i ∨ a < 1 ∨ 5 < a
 ·exact rman_bad hs hm ho hz i a hb
 obtain ⟨j, rfl⟩ : ∃ j : Nat, i = (j : Int) := ⟨i.toNat, by omega⟩
 have hj : j < z.l.length := by omega
 have hE : manageE z (j : Int) a = actE z j a.toNat := by unfold manageE; rw [if_neg hb, Int.toNat_natCast]
 have ha : a = 1 ∨ a = 2 ∨ a = 3 ∨ a = 4 ∨ a = 5 := by omega
 rw [hE]
 rcases ha with rfl | rfl | rfl | rfl | rfl
 ·exact rman1 hs hm ho hz hj
 ·exact rman2 hs hm ho hz hj
 ·exact rman3 hs hm ho hz hj
 ·exact rman4 hs hm ho hz hj
 ·exact rman5 hs hm ho hz hj
def restN (a : Nat) (l : List Zn) (k j : Nat) : List Nat := (List.range' j (k - j)).filter fun i => concE a (l.getD i dz).st
theorem restN_step (a : Nat) (l : List Zn) {k j : Nat} (h : j < k) : restN a l k j = if concE a (l.getD j dz).st = true then j :: restN a l k (j + 1) else restN a l k (j + 1) := by
 unfold restN
 obtain ⟨d, hd⟩ : ∃ d, k - j = d + 1 := ⟨k - j - 1, by omega⟩
 rw [hd, List.range'_succ, List.filter_cons, show k - (j + 1) = d by omega]
theorem restN_end (a : Nat) (l : List Zn) (k : Nat) : restN a l k k = [] := by unfold restN; rw [Nat.sub_self]; rfl
theorem restN_start (a : Nat) (l : List Zn) (k : Nat) : restN a l k 0 = (List.range k).filter fun i => concE a (l.getD i dz).st := by unfold restN; rw [List.range_eq_range', Nat.sub_zero]
theorem rmanageAll_st {z : Zs} {A : Option Addr} {ZI : List Value} (hs : St w0 X L w) (hm : At.rd A (ocs z.l) ∈ L) (ho : OkZ z) (hz : RZ z A ZI) (a : Int) :
  Calls Try.prog 51 #[.agg ZI.toArray, .int .i64 a] w fun e w' => True ∧ QR w0 X L (manageAllE z a) e w' := by
 obtain ⟨cc, hRZ⟩ := hz
 obtain ⟨ga, oa, rfl, _, _⟩ := (hs.hold _ hm).cells (ocs_ne (by rw [ho.1]; exact ho.2.1))
 obtain ⟨RL, hRL⟩ : ∃ RL, RL = ZI := ⟨_, rfl⟩
 rw [← hRL]
 rw [hRZ] at hRL
 obtain ⟨k, hk⟩ : ∃ n, n = z.l.length := ⟨_, rfl⟩
 have hk1 : k ≤ 4096 := by rw [hk, ho.1]; exact ho.2.2.1
 have hk0 : 1 ≤ k := by rw [hk, ho.1]; exact ho.2.1
 have RLL := Lib.hid (show RL.length = 7 by rw [hRL]; rfl)
 have RLO := Lib.hid (show ∀ v ∈ RL, v.oneCell' = true by rw [hRL]; exact zcl_one _ _ _)
 have R5 := Lib.hid (show RL[5]? = some (.slice (some ⟨ga, oa, none⟩) k cc) by rw [hRL, hk]; rfl)
 have hzr : RZ z (some ⟨ga, oa, none⟩) RL := ⟨cc, hRL⟩
 have SAME : Hid (∀ c, manageAllE z a = (z, c) → ∀ w, St w0 X L w → QR w0 X L (manageAllE z a) (.returned (.tuple #[.agg RL.toArray, iv c])) w) := Lib.hid (fun c he w hs => by
  rw [he]
  exact ⟨_, _, rfl, hzr, hs.dup hm⟩)
 obtain ⟨RZ0, hRZ0⟩ : ∃ R, R = zcl { c := ⟨0, 0, 0, 0, 0⟩, l := [] } none 0 := ⟨_, rfl⟩
 have ZL0 := Lib.hid (show RZ0.length = 7 by rw [hRZ0]; rfl)
 have zRz' := Lib.hid zRz
 rw [← hRZ0] at zRz'
 clear hRZ0
 by_cases h1 : a < 1
 ·have f1 : decide (a < 1) = true := by simpa using h1
  have HB := Lib.hid (show manageAllE z a = (z, 2) by unfold manageAllE; rw [if_pos (.inl h1)])
  clear h1 hRL hRZ hk ho hm hzr
  go_enter Try.func51, Try.ntmps51
  go_wp2_with (first | ((with_reducible refine Se.isL (o := ⟨some 4, _, _, _, _, _⟩) ?_); (refine Se.toL rfl (Se.al (o := ⟨some 4, _, _, _, _, _⟩) hs rfl (zRz'.out) ?_); clear hs; rintro w g4 - hs)) | ((with_reducible refine Se.isL (o := ⟨some 16, _, _, _, _, _⟩) ?_); (refine Se.toL rfl (Se.ldw (o := ⟨some 16, _, _, _, _, _⟩) hs rfl rfl ((Reads.blk 1 rfl)) ((by rw [RLL.out]; kernel_rfl)) (by kernel_rfl) ?_))) | ((with_reducible refine Se.isL (o := ⟨none, Op.store 43 _ _, _, _, _, _⟩) ?_); (refine Se.toL rfl (Se.sow 0 hs rfl rfl rfl rfl (RLO.out) ((by rw [RLL.out]; kernel_rfl)) ((by rw [RLL.out, ZL0.out])) ?_); clear hs; intro w hs; try simp only [List.cons_append, List.nil_append, List.set_cons_zero] at hs)) | ((first | with_reducible refine Se.ab hs ?_ | with_reducible refine Se.abc hs ?_); clear hs; (first | (generalize w.heap.size = g2; intro w hs))))
  refine Se.ret hs [.agg RL.toArray, .int .i64 2] rfl ⟨Se.resRow rfl (Reads.blk 0 rfl) (by kernel_rfl) (by rw [RLL.out] <;> kernel_rfl), rfl, trivial⟩ (by simp) rfl ?_
  exact ⟨trivial, SAME.out 2 HB.out _ hs.drop.drop⟩
 have f1 : decide (a < 1) = false := by simpa using h1
 by_cases h2 : 5 < a
 ·have f2 : decide (5 < a) = true := by simpa using h2
  have HB := Lib.hid (show manageAllE z a = (z, 2) by unfold manageAllE; rw [if_pos (.inr h2)])
  clear h1 h2 hRL hRZ hk ho hm hzr
  go_enter Try.func51, Try.ntmps51
  go_wp2_with (first | ((with_reducible refine Se.isL (o := ⟨some 4, _, _, _, _, _⟩) ?_); (refine Se.toL rfl (Se.al (o := ⟨some 4, _, _, _, _, _⟩) hs rfl (zRz'.out) ?_); clear hs; rintro w g4 - hs)) | ((with_reducible refine Se.isL (o := ⟨some 16, _, _, _, _, _⟩) ?_); (refine Se.toL rfl (Se.ldw (o := ⟨some 16, _, _, _, _, _⟩) hs rfl rfl ((Reads.blk 1 rfl)) ((by rw [RLL.out]; kernel_rfl)) (by kernel_rfl) ?_))) | ((with_reducible refine Se.isL (o := ⟨none, Op.store 43 _ _, _, _, _, _⟩) ?_); (refine Se.toL rfl (Se.sow 0 hs rfl rfl rfl rfl (RLO.out) ((by rw [RLL.out]; kernel_rfl)) ((by rw [RLL.out, ZL0.out])) ?_); clear hs; intro w hs; try simp only [List.cons_append, List.nil_append, List.set_cons_zero] at hs)) | ((first | with_reducible refine Se.ab hs ?_ | with_reducible refine Se.abc hs ?_); clear hs; (first | (generalize w.heap.size = g2; intro w hs))))
  refine Se.ret hs [.agg RL.toArray, .int .i64 2] rfl ⟨Se.resRow rfl (Reads.blk 0 rfl) (by kernel_rfl) (by rw [RLL.out] <;> kernel_rfl), rfl, trivial⟩ (by simp) rfl ?_
  exact ⟨trivial, SAME.out 2 HB.out _ hs.drop.drop⟩
 have f2 : decide (5 < a) = false := by simpa using h2
 obtain ⟨aa, rfl⟩ : ∃ m : Nat, a = (m : Int) := ⟨a.toNat, by omega⟩
 have haa : 1 ≤ aa ∧ aa ≤ 5 := by omega
 obtain ⟨l, hl⟩ : ∃ l, l = z.l := ⟨_, rfl⟩
 have HKL := Lib.hid (show l.length = k by rw [hl, hk])
 have HMR := Lib.hid (show Reads L (some ⟨ga, oa, none⟩) (ocs l) by rw [hl]; exact Reads.rdm hm)
 have HALL : Hid (manageAllE z (aa : Int) = if (runE aa (restN aa l k 0) z).2 = 0 then runE aa (restN aa l k 0) z else (z, (runE aa (restN aa l k 0) z).2)) := Lib.hid (by
  rw [restN_start]
  unfold manageAllE
  rw [if_neg (by omega), Int.toNat_natCast, hk, hl])
 have HAA := Lib.hid haa
 have HO := Lib.hid ho
 have HK := Lib.hid hk
 have hs0 : St w0 X (.rd (some ⟨ga, oa, none⟩) (ocs z.l) :: L) w := hs.dup hm
 have HZ0 := Lib.hid hzr
 clear hs h1 h2 hRL hRZ hk ho hm hzr hl haa
 have hs := hs0
 clear hs0
 go_enter Try.func51, Try.ntmps51
 go_wp2_with (first | ((with_reducible refine Se.isL (o := ⟨some 4, _, _, _, _, _⟩) ?_); (refine Se.toL rfl (Se.al (o := ⟨some 4, _, _, _, _, _⟩) hs rfl (zRz'.out) ?_); clear hs; rintro w g4 - hs)) | ((with_reducible refine Se.isL (o := ⟨some 17, _, _, _, _, _⟩) ?_); (refine Se.toL rfl (Se.ldw (o := ⟨some 17, _, _, _, _, _⟩) hs rfl rfl ((Reads.blk 1 rfl)) ((by rw [RLL.out]; kernel_rfl)) (by kernel_rfl) ?_))) | ((with_reducible refine Se.isL (o := ⟨some 6, _, _, _, _, _⟩) ?_); (refine Se.toL rfl (Se.al (o := ⟨some 6, _, _, _, _, _⟩) hs rfl (zRz'.out) ?_); clear hs; rintro w g6 - hs)) | ((with_reducible refine Se.isL (o := ⟨none, Op.store 43 _ _, _, _, _, _⟩) ?_); (refine Se.toL rfl (Se.sow 0 hs rfl rfl rfl rfl (RLO.out) ((by rw [RLL.out]; kernel_rfl)) ((by rw [RLL.out, ZL0.out])) ?_); clear hs; intro w hs; try simp only [List.cons_append, List.nil_append, List.set_cons_zero] at hs)) | ((first | with_reducible refine Se.ab hs ?_ | with_reducible refine Se.abc hs ?_); clear hs; (first | (generalize w.heap.size = g2; intro w hs))))
 replace hs := hs.pull 2 rfl
 replace hs := hs.pull 2 rfl
 replace hs := hs.pull 2 rfl
 replace hs := hs.pull 3 rfl
 simp only [List.eraseIdx_cons_succ, List.eraseIdx_cons_zero] at hs
 clear f1 f2
 go_loopg [7] k (fun gh s7 wr => ∃ (j : Nat) (zj : Zs) (A' : Option Addr) (ZJ : List Value), gh = k - j ∧ j ≤ k ∧ s7 = .int .i64 (j : Int) ∧ Hid (RZ zj A' ZJ ∧ (OkZ zj ∧ zj.l.length = k) ∧ runE aa (restN aa l k 0) z = runE aa (restN aa l k j) zj) ∧ St w0 X (.rd A' (ocs zj.l) :: .blk g6 43 ZJ :: .blk g4 43 RZ0 :: .blk g2 43 RL :: L) wr)
 case atStart => exact ⟨0, z, _, RL, rfl, Nat.zero_le _, rfl, Lib.hid ⟨HZ0.out, ⟨HO.out, HK.out.symm⟩, rfl⟩, hs⟩
 case round =>
  clear hs HZ0
  rename World => w
  obtain ⟨j, zj, A', ZJ, rfl, hj, rfl, HZ, hs⟩ := hrel
  have JL := Lib.hid HZ.out.1.len
  have JO := Lib.hid HZ.out.1.one
  by_cases hlt : j < k
  ·have hlt' : (j : Int) < (k : Int) := by omega
   have hjl : j < l.length := by have := HKL.out; omega
   obtain ⟨st, hst⟩ : ∃ s, s = (l.getD j dz).st := ⟨_, rfl⟩
   have C0 := Lib.hid (show Cell L ga (oa + j * 3) (iv st) from rcell HMR.out hjl 0 (by decide) (by rw [hst]; rfl))
   obtain ⟨b, hb⟩ : ∃ b, b = concE aa st := ⟨_, rfl⟩
   have CC : Hid (∀ (L : List At) (w : World), St w0 X L w → Calls Try.prog 85 #[iv aa, iv st] w fun e w' => e = .returned (.bool b) ∧ St w0 X L w') := Lib.hid (fun L w hs => by rw [hb]; exact rconcerns_v hs aa st HAA.out)
   have HS := Lib.hid (show restN aa l k j = if b = true then j :: restN aa l k (j + 1) else restN aa l k (j + 1) by rw [restN_step aa l hlt, hb, hst])
   clear hst hb hjl
   cases b with
   | false =>
    have HS2 := Lib.hid (show restN aa l k j = restN aa l k (j + 1) by rw [HS.out, if_neg (by decide)])
    clear HS
    go_wp2_with (first | ((with_reducible refine Se.isL (o := ⟨some 20, _, _, _, _, _⟩) ?_); (refine Se.toL rfl (Se.ld (o := ⟨some 20, _, _, _, _, _⟩) hs rfl rfl (Cell.blk 3 rfl R5.out) (by kernel_rfl) ?_))) | ((with_reducible refine Se.isL (o := ⟨some 27, _, _, _, _, _⟩) ?_); (refine Se.toL rfl (Se.ld (o := ⟨some 27, _, _, _, _, _⟩) hs rfl rfl (Cell.blk 3 rfl R5.out) (by kernel_rfl) ?_))) | ((with_reducible refine Se.isL (o := ⟨some 31, _, _, _, _, _⟩) ?_); (refine Se.toL rfl (Se.ld (o := ⟨some 31, _, _, _, _, _⟩) hs rfl rfl ((capp [_, _, _, _] C0.out)) (by kernel_rfl) ?_))) | (go_at_call 85; refine Calls.mono (CC.out _ _ hs) ?_; clear hs; rintro e w ⟨rfl, hs⟩))
    go_roundg (k - (j + 1))
    case measure => omega
    case rel => exact ⟨j + 1, zj, A', ZJ, rfl, by omega, by go_num, Lib.hid ⟨HZ.out.1, HZ.out.2.1, by rw [HZ.out.2.2, HS2.out]⟩, hs⟩
   | true =>
    have HS2 := Lib.hid (show restN aa l k j = j :: restN aa l k (j + 1) by rw [HS.out, if_pos rfl])
    have hjz : j < zj.l.length := by rw [HZ.out.2.1.2]; exact hlt
    have CM : Hid (∀ (M1 M : List At) (w : World), St w0 X (M1 ++ .rd A' (ocs zj.l) :: M) w → Calls Try.prog 50 #[.agg ZJ.toArray, .int .i64 (j : Int), iv aa] w fun e w' => True ∧ QR w0 X (M1 ++ .rd A' (ocs zj.l) :: M) (actE zj j aa) e w') := Lib.hid (fun M1 M w hs => by
     have h := rmanage_st hs (List.mem_append.2 (.inr List.mem_cons_self)) HZ.out.2.1.1 HZ.out.1 (j : Int) (aa : Int)
     have hE : manageE zj (j : Int) (aa : Int) = actE zj j aa := by unfold manageE; rw [if_neg (by have := HAA.out; omega), Int.toNat_natCast, Int.toNat_natCast]
     rw [hE] at h
     exact h)
    have HOA := Lib.hid (HZ.out.2.1.1.act hjz aa)
    have HR := Lib.hid (show runE aa (restN aa l k 0) z = if (actE zj j aa).2 = 0 then runE aa (restN aa l k (j + 1)) (actE zj j aa).1 else (zj, (actE zj j aa).2) by rw [HZ.out.2.2, HS2.out, runE_cons])
    have HZL := Lib.hid HZ.out.2.1.2
    obtain ⟨q, hq⟩ : ∃ q, q = actE zj j aa := ⟨_, rfl⟩
    rw [← hq] at CM HOA HR
    clear HS HS2 hq hjz HZ
    go_upto_region 9 with (first | ((with_reducible refine Se.isL (o := ⟨some 20, _, _, _, _, _⟩) ?_); (refine Se.toL rfl (Se.ld (o := ⟨some 20, _, _, _, _, _⟩) hs rfl rfl (Cell.blk 3 rfl R5.out) (by kernel_rfl) ?_))) | ((with_reducible refine Se.isL (o := ⟨some 27, _, _, _, _, _⟩) ?_); (refine Se.toL rfl (Se.ld (o := ⟨some 27, _, _, _, _, _⟩) hs rfl rfl (Cell.blk 3 rfl R5.out) (by kernel_rfl) ?_))) | ((with_reducible refine Se.isL (o := ⟨some 31, _, _, _, _, _⟩) ?_); (refine Se.toL rfl (Se.ld (o := ⟨some 31, _, _, _, _, _⟩) hs rfl rfl ((capp [_, _, _, _] C0.out)) (by kernel_rfl) ?_))) | ((with_reducible refine Se.isL (o := ⟨some 34, _, _, _, _, _⟩) ?_); (refine Se.toL rfl (Se.ldw (o := ⟨some 34, _, _, _, _, _⟩) hs rfl rfl ((Reads.blk 1 rfl)) ((by rw [JL.out]; kernel_rfl)) (by kernel_rfl) ?_))) | ((with_reducible refine Se.isL (o := ⟨some 8, _, _, _, _, _⟩) ?_); (refine Se.toL rfl (Se.al (o := ⟨some 8, _, _, _, _, _⟩) hs rfl (zRz'.out) ?_); clear hs; rintro w g8 - hs)) | ((with_reducible refine Se.isL (o := ⟨none, Op.store 43 _ _, _, _, _, _⟩) ?_); (refine Se.toL rfl (Se.sow 0 hs rfl rfl rfl rfl (hzn.one) ((by rw [hzn.len]; kernel_rfl)) ((by rw [hzn.len, ZL0.out])) ?_); clear hs; intro w hs; try simp only [List.cons_append, List.nil_append, List.set_cons_zero] at hs)) | (go_at_call 85; refine Calls.mono (CC.out _ _ hs) ?_; clear hs; rintro e w ⟨rfl, hs⟩) | (go_at_call 50; refine Calls.mono (CM.out [] _ _ hs) ?_; clear hs; rintro e w ⟨-, A2, ZN, rfl, hzn, hs⟩))
    have NL := Lib.hid hzn.len
    have NO := Lib.hid hzn.one
    have HZN := Lib.hid hzn
    clear hzn CM CC
    obtain ⟨c2, hc2⟩ : ∃ c, c = q.2 := ⟨_, rfl⟩
    rw [← hc2] at HR ⊢
    clear hc2
    by_cases h0 : c2 = 0
    ·have v0 : ((c2 : Int) != 0) = false := by simp; omega
     have HR2 := Lib.hid (show runE aa (restN aa l k 0) z = runE aa (restN aa l k (j + 1)) q.1 by rw [HR.out, if_pos h0])
     clear h0 HR
     go_wp2_with (first | ((with_reducible refine Se.isL (o := ⟨some 44, _, _, _, _, _⟩) ?_); (refine Se.toL rfl (Se.ldw (o := ⟨some 44, _, _, _, _, _⟩) hs rfl rfl ((Reads.blk 0 rfl)) ((by rw [NL.out]; kernel_rfl)) (by kernel_rfl) ?_))) | ((with_reducible refine Se.isL (o := ⟨none, Op.store 43 _ _, _, _, _, _⟩) ?_); (refine Se.toL rfl (Se.sow 3 hs rfl rfl rfl rfl (NO.out) ((by rw [NL.out]; kernel_rfl)) ((by rw [NL.out, JL.out])) ?_); clear hs; intro w hs; try simp only [List.cons_append, List.nil_append, List.set_cons_zero, List.set_cons_succ] at hs)))
     go_roundg (k - (j + 1))
     case measure => omega
     case rel =>
      refine ⟨j + 1, q.1, A2, ZN, rfl, by omega, by go_num, Lib.hid ⟨HZN.out, ⟨HOA.out.1, by rw [HOA.out.2.2.2, HZL.out]⟩, HR2.out⟩, ?_⟩
      exact hs.sub (.cons _ (List.Sublist.cons_cons _ (.cons _ (List.Sublist.refl _))))
    ·have v0 : ((c2 : Int) != 0) = true := by simp; omega
     have HB := Lib.hid (show manageAllE z (aa : Int) = (z, c2) by rw [HALL.out, HR.out, if_neg h0]; exact if_neg h0)
     have HSA := Lib.hid (SAME.out c2 HB.out)
     clear h0 HR HALL SAME
     go_wp2_with (first | ((with_reducible refine Se.isL (o := ⟨some 42, _, _, _, _, _⟩) ?_); (refine Se.toL rfl (Se.ldw (o := ⟨some 42, _, _, _, _, _⟩) hs rfl rfl ((Reads.blk 5 rfl)) ((by rw [RLL.out]; kernel_rfl)) (by kernel_rfl) ?_))) | ((with_reducible refine Se.isL (o := ⟨none, Op.store 43 _ _, _, _, _, _⟩) ?_); (refine Se.toL rfl (Se.sow 4 hs rfl rfl rfl rfl (RLO.out) ((by rw [RLL.out]; kernel_rfl)) ((by rw [RLL.out, ZL0.out])) ?_); clear hs; intro w hs; try simp only [List.cons_append, List.nil_append, List.set_cons_zero, List.set_cons_succ] at hs)))
     refine Se.ret hs [.agg RL.toArray, .int .i64 (c2 : Int)] rfl ⟨Se.resRow rfl (Reads.blk 4 rfl) (by kernel_rfl) (by rw [RLL.out] <;> kernel_rfl), rfl, trivial⟩ (by simp) rfl ?_
     exact ⟨trivial, HSA.out _ hs.drop.drop.drop.drop.drop.drop⟩
  ·obtain rfl : j = k := by omega
   have HB := Lib.hid (show manageAllE z (aa : Int) = (zj, 0) by rw [HALL.out, HZ.out.2.2, restN_end]; rfl)
   clear HALL SAME
   go_wp2_with (first | ((with_reducible refine Se.isL (o := ⟨some 20, _, _, _, _, _⟩) ?_); (refine Se.toL rfl (Se.ld (o := ⟨some 20, _, _, _, _, _⟩) hs rfl rfl (Cell.blk 3 rfl R5.out) (by kernel_rfl) ?_))) | ((with_reducible refine Se.isL (o := ⟨some 45, _, _, _, _, _⟩) ?_); (refine Se.toL rfl (Se.ldw (o := ⟨some 45, _, _, _, _, _⟩) hs rfl rfl ((Reads.blk 1 rfl)) ((by rw [JL.out]; kernel_rfl)) (by kernel_rfl) ?_))) | ((with_reducible refine Se.isL (o := ⟨none, Op.store 43 _ _, _, _, _, _⟩) ?_); (refine Se.toL rfl (Se.sow 2 hs rfl rfl rfl rfl (JO.out) ((by rw [JL.out]; kernel_rfl)) ((by rw [JL.out, ZL0.out])) ?_); clear hs; intro w hs; try simp only [List.cons_append, List.nil_append, List.set_cons_zero, List.set_cons_succ] at hs)))
   refine Se.ret hs [.agg ZJ.toArray, .int .i64 0] rfl ⟨Se.resRow rfl (Reads.blk 2 rfl) (by kernel_rfl) (by rw [JL.out] <;> kernel_rfl), rfl, trivial⟩ (by simp) rfl ?_
   refine ⟨trivial, ?_⟩
   rw [HB.out]
   exact ⟨A', ZJ, rfl, HZ.out.1, hs.sub (List.Sublist.cons_cons _ (.cons _ (.cons _ (.cons _ (List.Sublist.refl _)))))⟩
end Zo
end Go.Proofs.Ythpgkkfahiglnaa


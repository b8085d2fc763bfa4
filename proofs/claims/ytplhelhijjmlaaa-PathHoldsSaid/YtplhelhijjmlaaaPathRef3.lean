/- Layer 45: the reference's State, Connect, Submit, Done. Printed by wip/gen_pathref.py. -/
import Derived.Test.YtplhelhijjmlaaaPathRef2
namespace Go.Proofs.Ytplhelhijjmlaaa
open Go Go.RowKit
namespace Pa
open Se (St At Reads Cell)
variable {w0 w : World} {X : List Nat} {L : List At} {A : Option Addr} {c : Nat} {p : PP}
set_option maxRecDepth 100000 in
set_option maxHeartbeats 4000000 in
theorem rState_st (hs : St w0 X L w) (hm : At.rd A (cells p.l) ∈ L) (hp : OkP p) (i gr : Int) :
    Calls Try.prog 52 #[rv p A c, .int .i64 i, .int .i64 gr] w fun e w' => e = .returned (.tuple #[.int .i64 (state p i gr).1, .int .i64 (state p i gr).2]) ∧ St w0 X L w' := by
  have HP := Lib.hid hp
  obtain ⟨g, off, rfl⟩ := rd_some hs hm hp
  have HM := Lib.hid hm
  clear hm hp
  obtain ⟨z, hz, hz2⟩ := zRL
  have Z := Lib.hid hz
  have ZL := Lib.hid hz2
  clear hz hz2
  cases hg : grp gr with
  | false =>
    have hf := Lib.hid (show state p i gr = (0, 2) by unfold state at'; simp [hg])
    have HG := Lib.hid hg
    clear hg
    go_enter Try.func52, Try.ntmps52
    go_wp2_with (first | ((first | with_reducible refine Se.ab hs ?_ | with_reducible refine Se.abc hs ?_); clear hs; (first | (generalize w.heap.size = g3; intro w hs))) | (go_at_call 57; refine Calls.mono (rgroup_st' hs gr HG.out) ?_; clear hs; rintro e w ⟨rfl, hs⟩))
    go_ret2
    rw [hf.out]
    exact ⟨rfl, hs.drop⟩
  | true =>
    have HG := Lib.hid hg
    have hgb : 0 ≤ gr ∧ gr < 129 := by
      have : 1 ≤ gr ∧ gr ≤ 128 := by simpa [grp] using hg
      omega
    obtain ⟨hg1, hg2⟩ := hgb
    by_cases hri : rng p i = 0
    · have hf := Lib.hid (show state p i gr = (stOf (get p i) gr, 0) by unfold state at'; simp [hg, hri])
      have hin : 0 ≤ i ∧ i < p.l.length := by unfold rng at hri; split at hri; omega; cases hri
      obtain ⟨hi0, hi1⟩ := hin
      have HRI := Lib.hid hri
      have RC := Lib.hid (show ∀ L : List At, At.rd (some ⟨g, off, none⟩) (cells p.l) ∈ L → Cell L g (off + i.toNat * 131 + 2 + gr.toNat) (.int .i64 (stOf (get p i) gr)) from fun _ h => r_st HP.out hri (Reads.rdm h) hg)
      clear hri hg
      go_enter Try.func52, Try.ntmps52
      go_wp2_with (first | ((with_reducible refine Se.isL (o := ⟨some 12, _, _, _, _, _⟩) ?_); (refine Se.toL rfl (Se.ldw (o := ⟨some 12, _, _, _, _, _⟩) hs rfl rfl ((Reads.blk 0 rfl)) ((by kernel_rfl)) (by kernel_rfl) ?_))) | ((with_reducible refine Se.isL (o := ⟨some 19, _, _, _, _, _⟩) ?_); (refine Se.toL rfl (Se.ld (o := ⟨some 19, _, _, _, _, _⟩) hs rfl rfl (Cell.blk 0 rfl rfl) (by kernel_rfl) ?_))) | ((with_reducible refine Se.isL (o := ⟨some 25, _, _, _, _, _⟩) ?_); (refine Se.toL rfl (Se.ld (o := ⟨some 25, _, _, _, _, _⟩) hs rfl rfl (RC.out _ (by simp only [List.mem_cons, HM.out, or_true])) (by kernel_rfl) ?_))) | ((first | with_reducible refine Se.ab hs ?_ | with_reducible refine Se.abc hs ?_); clear hs; (first | (generalize w.heap.size = g3; intro w hs))) | (go_at_call 57; refine Calls.mono (rgroup_st' hs gr HG.out) ?_; clear hs; rintro e w ⟨rfl, hs⟩) | (go_at_call 58; refine Calls.mono (wrong_st' hs i HRI.out) ?_; clear hs; rintro e w ⟨rfl, hs⟩))
      go_ret2
      rw [hf.out]
      exact ⟨rfl, hs.drop⟩
    · have HRI := Lib.hid (show rng p i = 3 by unfold rng at hri ⊢; split <;> simp_all)
      have hf := Lib.hid (show state p i gr = (0, 3) by unfold state at'; simp [hg, HRI.out])
      clear hri hg
      go_enter Try.func52, Try.ntmps52
      go_wp2_with (first | ((with_reducible refine Se.isL (o := ⟨some 12, _, _, _, _, _⟩) ?_); (refine Se.toL rfl (Se.ldw (o := ⟨some 12, _, _, _, _, _⟩) hs rfl rfl ((Reads.blk 0 rfl)) ((by kernel_rfl)) (by kernel_rfl) ?_))) | ((first | with_reducible refine Se.ab hs ?_ | with_reducible refine Se.abc hs ?_); clear hs; (first | (generalize w.heap.size = g3; intro w hs))) | (go_at_call 57; refine Calls.mono (rgroup_st' hs gr HG.out) ?_; clear hs; rintro e w ⟨rfl, hs⟩) | (go_at_call 58; refine Calls.mono (wrong_st' hs i HRI.out) ?_; clear hs; rintro e w ⟨rfl, hs⟩))
      go_ret2
      rw [hf.out]
      exact ⟨rfl, hs.drop⟩
set_option maxRecDepth 100000 in
set_option maxHeartbeats 4000000 in
theorem rSubmit_st (hs : St w0 X L w) (hm : At.rd A (cells p.l) ∈ L) (hp : OkP p) (i n : Int) :
    Calls Try.prog 47 #[rv p A c, .int .i64 i, .int .i64 n] w fun e w' => ∃ A' c', e = .returned (.tuple #[rv (submit p i n).1 A' c', .int .i64 (submit p i n).2]) ∧ St w0 X (.rd A' (cells (submit p i n).1.l) :: L) w' := by
  have HP := Lib.hid hp
  obtain ⟨g, off, rfl⟩ := rd_some hs hm hp
  have HM := Lib.hid hm
  clear hm hp
  obtain ⟨z, hz, hz2⟩ := zRL
  have Z := Lib.hid hz
  have ZL := Lib.hid hz2
  clear hz hz2
  have key : byt n = false ∧ (n < 0 ∨ (decide (n < 0) = false ∧ 1099511627776 < n)) ∨ byt n = true ∧ decide (n < 0) = false ∧ decide (1099511627776 < n) = false := by
    unfold byt maxB; simp only [decide_eq_false_iff_not, Bool.and_eq_false_iff, Bool.and_eq_true, decide_eq_true_eq]; omega
  rcases key with ⟨hb, hk⟩ | ⟨hb, hk1, hk2⟩
  · have hf := Lib.hid (show submit p i n = (p, 2) by unfold submit at'; simp [hb])
    clear hb
    rcases hk with hk | ⟨hk1, hk2⟩
    all_goals
      go_enter Try.func47, Try.ntmps47
      go_wp2_with (first | ((with_reducible refine Se.isL (o := ⟨some 6, _, _, _, _, _⟩) ?_); (refine Se.toL rfl (Se.al (o := ⟨some 6, _, _, _, _, _⟩) hs rfl (rfl) ?_); clear hs; rintro w g6 - hs)) | ((with_reducible refine Se.isL (o := ⟨some 16, _, _, _, _, _⟩) ?_); (refine Se.toL rfl (Se.ldw (o := ⟨some 16, _, _, _, _, _⟩) hs rfl rfl ((Reads.blk 1 rfl)) ((by kernel_rfl)) (by kernel_rfl) ?_))) | ((with_reducible refine Se.isL (o := ⟨none, Op.store 59 _ _, _, _, _, _⟩) ?_); (refine Se.toL rfl (Se.sow 0 hs rfl rfl rfl rfl ((by simp [Value.oneCell'])) ((by kernel_rfl)) (rfl) ?_); clear hs; intro w hs; try simp only [List.set_cons_zero] at hs)) | ((first | with_reducible refine Se.ab hs ?_ | with_reducible refine Se.abc hs ?_); clear hs; (first | (generalize w.heap.size = g3; intro w hs))))
      refine Se.ret hs [rv _ _ _, .int .i64 2] rfl ⟨Se.resRow rfl (Reads.blk 0 rfl) (by kernel_rfl) (by kernel_rfl), rfl, trivial⟩ (by simp) rfl ?_
      rw [hf.out]
      exact ⟨_, _, rfl, hs.drop.drop.dup HM.out⟩
  · by_cases hri : rng p i = 0
    · have hin : 0 ≤ i ∧ i < p.l.length := by unfold rng at hri; split at hri; omega; cases hri
      obtain ⟨hi0, hi1⟩ := hin
      have HRI := Lib.hid hri
      have hok := HP.out.get hri
      obtain ⟨xs, hxs⟩ : ∃ xs, xs = cS (get p i) := ⟨_, rfl⟩
      obtain ⟨b, hb'⟩ : ∃ b, b = (get p i).on := ⟨_, rfl⟩
      obtain ⟨m, hm⟩ : ∃ m, m = (get p i).b := ⟨_, rfl⟩
      have hmb : 0 ≤ m ∧ m ≤ 1099511627776 := by rw [hm]; exact ⟨hok.1, hok.2.1⟩
      obtain ⟨hm1, hm2⟩ := hmb
      have X0 := Lib.hid (show xs[0]? = some (.bool b) by rw [hxs, hb']; rfl)
      have X1 := Lib.hid (show xs[1]? = some (.int .i64 m) by rw [hxs, hm]; rfl)
      have XL := Lib.hid (show xs.length = 131 by rw [hxs]; exact cS_length hok)
      have XO := Lib.hid (show ∀ v ∈ xs, v.oneCell' = true by rw [hxs]; exact cS_one _)
      have RP := Lib.hid (show ∀ L : List At, At.rd (some ⟨g, off, none⟩) (cells p.l) ∈ L → Reads L (some ⟨g, off + i.toNat * 131, none⟩) xs from fun _ h => hxs ▸ r_path HP.out hri (Reads.rdm h))
      have hs0 : submit p i n = if b = false then (p, 8) else if maxB < m + n then (p, 7) else (put p i { get p i with b := m + n }, 0) := by
        unfold submit; dsimp only; rw [show at' p i (byt n) = 0 by rw [hb]; exact hri, if_neg (by simp), ← hb', ← hm]
      cases b with
      | false =>
        have hf := Lib.hid (show submit p i n = (p, 8) by rw [hs0]; rfl)
        clear hri hok hxs hb' hm hs0 hb
        go_enter Try.func47, Try.ntmps47
        go_wp2_with (first | ((with_reducible refine Se.isL (o := ⟨some 6, _, _, _, _, _⟩) ?_); (refine Se.toL rfl (Se.al (o := ⟨some 6, _, _, _, _, _⟩) hs rfl (rfl) ?_); clear hs; rintro w g6 - hs)) | ((with_reducible refine Se.isL (o := ⟨some 17, _, _, _, _, _⟩) ?_); (refine Se.toL rfl (Se.ldw (o := ⟨some 17, _, _, _, _, _⟩) hs rfl rfl ((Reads.blk 1 rfl)) ((by kernel_rfl)) (by kernel_rfl) ?_))) | ((with_reducible refine Se.isL (o := ⟨some 25, _, _, _, _, _⟩) ?_); (refine Se.toL rfl (Se.ld (o := ⟨some 25, _, _, _, _, _⟩) hs rfl rfl (Cell.blk 1 rfl rfl) (by kernel_rfl) ?_))) | ((with_reducible refine Se.isL (o := ⟨some 28, _, _, _, _, _⟩) ?_); (refine Se.toL rfl (Se.ldw (o := ⟨some 28, _, _, _, _, _⟩) hs rfl rfl ((RP.out _ (by simp only [List.mem_cons, HM.out, or_true]))) ((by rw [XL.out]; kernel_rfl)) (by kernel_rfl) ?_))) | ((with_reducible refine Se.isL (o := ⟨some 9, _, _, _, _, _⟩) ?_); (refine Se.toL rfl (Se.al (o := ⟨some 9, _, _, _, _, _⟩) hs rfl (Z.out) ?_); clear hs; rintro w g9 - hs)) | ((with_reducible refine Se.isL (o := ⟨none, Op.store 70 _ _, _, _, _, _⟩) ?_); (refine Se.toL rfl (Se.sow 0 hs rfl rfl rfl rfl (XO.out) ((by rw [XL.out]; kernel_rfl)) ((by rw [XL.out, ZL.out])) ?_); clear hs; intro w hs; try simp only [List.set_cons_zero] at hs)) | ((with_reducible refine Se.isL (o := ⟨some 30, _, _, _, _, _⟩) ?_); (refine Se.toL rfl (Se.ld (o := ⟨some 30, _, _, _, _, _⟩) hs rfl rfl (Cell.blk 0 rfl X0.out) (by kernel_rfl) ?_))) | ((with_reducible refine Se.isL (o := ⟨some 32, _, _, _, _, _⟩) ?_); (refine Se.toL rfl (Se.ldw (o := ⟨some 32, _, _, _, _, _⟩) hs rfl rfl ((Reads.blk 2 rfl)) ((by kernel_rfl)) (by kernel_rfl) ?_))) | ((with_reducible refine Se.isL (o := ⟨none, Op.store 59 _ _, _, _, _, _⟩) ?_); (refine Se.toL rfl (Se.sow 1 hs rfl rfl rfl rfl ((by simp [Value.oneCell'])) ((by kernel_rfl)) (rfl) ?_); clear hs; intro w hs; try simp only [List.set_cons_zero, List.set_cons_succ] at hs)) | ((first | with_reducible refine Se.ab hs ?_ | with_reducible refine Se.abc hs ?_); clear hs; (first | (generalize w.heap.size = g3; intro w hs))) | (go_at_call 58; refine Calls.mono (wrong_st' hs i HRI.out) ?_; clear hs; rintro e w ⟨rfl, hs⟩))
        refine Se.ret hs [rv _ _ _, .int .i64 8] rfl ⟨Se.resRow rfl (Reads.blk 1 rfl) (by kernel_rfl) (by kernel_rfl), rfl, trivial⟩ (by simp) rfl ?_
        rw [hf.out]
        exact ⟨_, _, rfl, hs.drop.drop.drop.dup HM.out⟩
      | true =>
        by_cases hc : maxB < m + n
        · have hf := Lib.hid (show submit p i n = (p, 7) by rw [hs0, if_neg (by simp), if_pos hc])
          have hc' : 1099511627776 < m + n := hc
          have hn0 : 0 ≤ n := by simpa using hk1
          have hn1 : n ≤ 1099511627776 := by simpa using hk2
          clear hri hok hxs hb' hm hs0 hb hc
          go_enter Try.func47, Try.ntmps47
          go_wp2_with (first | ((with_reducible refine Se.isL (o := ⟨some 6, _, _, _, _, _⟩) ?_); (refine Se.toL rfl (Se.al (o := ⟨some 6, _, _, _, _, _⟩) hs rfl (rfl) ?_); clear hs; rintro w g6 - hs)) | ((with_reducible refine Se.isL (o := ⟨some 17, _, _, _, _, _⟩) ?_); (refine Se.toL rfl (Se.ldw (o := ⟨some 17, _, _, _, _, _⟩) hs rfl rfl ((Reads.blk 1 rfl)) ((by kernel_rfl)) (by kernel_rfl) ?_))) | ((with_reducible refine Se.isL (o := ⟨some 25, _, _, _, _, _⟩) ?_); (refine Se.toL rfl (Se.ld (o := ⟨some 25, _, _, _, _, _⟩) hs rfl rfl (Cell.blk 1 rfl rfl) (by kernel_rfl) ?_))) | ((with_reducible refine Se.isL (o := ⟨some 28, _, _, _, _, _⟩) ?_); (refine Se.toL rfl (Se.ldw (o := ⟨some 28, _, _, _, _, _⟩) hs rfl rfl ((RP.out _ (by simp only [List.mem_cons, HM.out, or_true]))) ((by rw [XL.out]; kernel_rfl)) (by kernel_rfl) ?_))) | ((with_reducible refine Se.isL (o := ⟨some 9, _, _, _, _, _⟩) ?_); (refine Se.toL rfl (Se.al (o := ⟨some 9, _, _, _, _, _⟩) hs rfl (Z.out) ?_); clear hs; rintro w g9 - hs)) | ((with_reducible refine Se.isL (o := ⟨none, Op.store 70 _ _, _, _, _, _⟩) ?_); (refine Se.toL rfl (Se.sow 0 hs rfl rfl rfl rfl (XO.out) ((by rw [XL.out]; kernel_rfl)) ((by rw [XL.out, ZL.out])) ?_); clear hs; intro w hs; try simp only [List.set_cons_zero] at hs)) | ((with_reducible refine Se.isL (o := ⟨some 30, _, _, _, _, _⟩) ?_); (refine Se.toL rfl (Se.ld (o := ⟨some 30, _, _, _, _, _⟩) hs rfl rfl (Cell.blk 0 rfl X0.out) (by kernel_rfl) ?_))) | ((with_reducible refine Se.isL (o := ⟨some 34, _, _, _, _, _⟩) ?_); (refine Se.toL rfl (Se.ld (o := ⟨some 34, _, _, _, _, _⟩) hs rfl rfl (Cell.blk 0 rfl X1.out) (by kernel_rfl) ?_))) | ((with_reducible refine Se.isL (o := ⟨some 38, _, _, _, _, _⟩) ?_); (refine Se.toL rfl (Se.ldw (o := ⟨some 38, _, _, _, _, _⟩) hs rfl rfl ((Reads.blk 2 rfl)) ((by kernel_rfl)) (by kernel_rfl) ?_))) | ((with_reducible refine Se.isL (o := ⟨none, Op.store 59 _ _, _, _, _, _⟩) ?_); (refine Se.toL rfl (Se.sow 1 hs rfl rfl rfl rfl ((by simp [Value.oneCell'])) ((by kernel_rfl)) (rfl) ?_); clear hs; intro w hs; try simp only [List.set_cons_zero, List.set_cons_succ] at hs)) | ((first | with_reducible refine Se.ab hs ?_ | with_reducible refine Se.abc hs ?_); clear hs; (first | (generalize w.heap.size = g3; intro w hs))) | (go_at_call 58; refine Calls.mono (wrong_st' hs i HRI.out) ?_; clear hs; rintro e w ⟨rfl, hs⟩))
          refine Se.ret hs [rv _ _ _, .int .i64 7] rfl ⟨Se.resRow rfl (Reads.blk 1 rfl) (by kernel_rfl) (by kernel_rfl), rfl, trivial⟩ (by simp) rfl ?_
          rw [hf.out]
          exact ⟨_, _, rfl, hs.drop.drop.drop.dup HM.out⟩
        · have hf := Lib.hid (show submit p i n = (put p i { get p i with b := m + n }, 0) by rw [hs0, if_neg (by simp), if_neg hc])
          have hc' : m + n ≤ 1099511627776 := by unfold maxB at hc; omega
          have hn0 : 0 ≤ n := by simpa using hk1
          have hn1 : n ≤ 1099511627776 := by simpa using hk2
          have hokx : okS { get p i with b := m + n } := ⟨by dsimp only; omega, by dsimp only [maxB]; omega, hok.2.2⟩
          obtain ⟨xs2, hxs2⟩ : ∃ xs2, cS { get p i with b := m + n } = xs2 := ⟨_, rfl⟩
          have XL2 := Lib.hid (show xs2.length = 131 by rw [← hxs2]; exact cS_length hokx)
          have XS := Lib.hid (show xs.set 1 (.int .i64 (m + n)) = xs2 by rw [hxs, ← hxs2]; rfl)
          have HX2 := Lib.hid hxs2
          have HOX := Lib.hid hokx
          clear hri hok hxs hb' hm hs0 hb hc hokx hxs2
          go_enter Try.func47, Try.ntmps47
          go_wp2_with (first | ((with_reducible refine Se.isL (o := ⟨some 6, _, _, _, _, _⟩) ?_); (refine Se.toL rfl (Se.al (o := ⟨some 6, _, _, _, _, _⟩) hs rfl (rfl) ?_); clear hs; rintro w g6 - hs)) | ((with_reducible refine Se.isL (o := ⟨some 17, _, _, _, _, _⟩) ?_); (refine Se.toL rfl (Se.ldw (o := ⟨some 17, _, _, _, _, _⟩) hs rfl rfl ((Reads.blk 1 rfl)) ((by kernel_rfl)) (by kernel_rfl) ?_))) | ((with_reducible refine Se.isL (o := ⟨some 25, _, _, _, _, _⟩) ?_); (refine Se.toL rfl (Se.ld (o := ⟨some 25, _, _, _, _, _⟩) hs rfl rfl (Cell.blk 1 rfl rfl) (by kernel_rfl) ?_))) | ((with_reducible refine Se.isL (o := ⟨some 28, _, _, _, _, _⟩) ?_); (refine Se.toL rfl (Se.ldw (o := ⟨some 28, _, _, _, _, _⟩) hs rfl rfl ((RP.out _ (by simp only [List.mem_cons, HM.out, or_true]))) ((by rw [XL.out]; kernel_rfl)) (by kernel_rfl) ?_))) | ((with_reducible refine Se.isL (o := ⟨some 9, _, _, _, _, _⟩) ?_); (refine Se.toL rfl (Se.al (o := ⟨some 9, _, _, _, _, _⟩) hs rfl (Z.out) ?_); clear hs; rintro w g9 - hs)) | ((with_reducible refine Se.isL (o := ⟨none, Op.store 70 _ _, _, _, _, _⟩) ?_); (refine Se.toL rfl (Se.sow 0 hs rfl rfl rfl rfl (XO.out) ((by rw [XL.out]; kernel_rfl)) ((by rw [XL.out, ZL.out])) ?_); clear hs; intro w hs; try simp only [List.set_cons_zero] at hs)) | ((with_reducible refine Se.isL (o := ⟨some 30, _, _, _, _, _⟩) ?_); (refine Se.toL rfl (Se.ld (o := ⟨some 30, _, _, _, _, _⟩) hs rfl rfl (Cell.blk 0 rfl X0.out) (by kernel_rfl) ?_))) | ((with_reducible refine Se.isL (o := ⟨some 34, _, _, _, _, _⟩) ?_); (refine Se.toL rfl (Se.ld (o := ⟨some 34, _, _, _, _, _⟩) hs rfl rfl (Cell.blk 0 rfl X1.out) (by kernel_rfl) ?_))) | ((with_reducible refine Se.isL (o := ⟨some 40, _, _, _, _, _⟩) ?_); (refine Se.toL rfl (Se.ld (o := ⟨some 40, _, _, _, _, _⟩) hs rfl rfl (Cell.blk 0 rfl X1.out) (by kernel_rfl) ?_))) | ((with_reducible refine Se.isL (o := ⟨none, Op.store 3 _ _, _, _, _, _⟩) ?_); ((first | refine Se.toL rfl (Se.soq 0 (v := .int _ _) hs rfl rfl rfl rfl rfl (by kernel_rfl) ((by rw [XL.out]; decide)) (XS.out) ?_) | refine Se.toL rfl (Se.soq 0 (v := .bool _) hs rfl rfl rfl rfl rfl (by kernel_rfl) ((by rw [XL.out]; decide)) (XS.out) ?_) | refine Se.toL rfl (Se.soq 0 (v := .slice _ _ _) hs rfl rfl rfl rfl rfl (by kernel_rfl) ((by rw [XL.out]; decide)) (XS.out) ?_) | refine Se.toL rfl (Se.soq 0 (v := .pointer _) hs rfl rfl rfl rfl rfl (by kernel_rfl) ((by rw [XL.out]; decide)) (XS.out) ?_) | refine Se.toL rfl (Se.soq 0 (v := .string _) hs rfl rfl rfl rfl rfl (by kernel_rfl) ((by rw [XL.out]; decide)) (XS.out) ?_) | refine Se.toL rfl (Se.soq 0 (v := .map _) hs rfl rfl rfl rfl rfl (by kernel_rfl) ((by rw [XL.out]; decide)) (XS.out) ?_) | refine Se.toL rfl (Se.soq 0 (v := .func _ _ _) hs rfl rfl rfl rfl rfl (by kernel_rfl) ((by rw [XL.out]; decide)) (XS.out) ?_) | refine Se.toL rfl (Se.soq 0 (v := .nilFunc) hs rfl rfl rfl rfl rfl (by kernel_rfl) ((by rw [XL.out]; decide)) (XS.out) ?_)); clear hs; intro w hs; try simp only [List.set_cons_zero] at hs)) | ((with_reducible refine Se.isL (o := ⟨some 44, _, _, _, _, _⟩) ?_); (refine Se.toL rfl (Se.ldw (o := ⟨some 44, _, _, _, _, _⟩) hs rfl rfl ((Reads.blk 2 rfl)) ((by kernel_rfl)) (by kernel_rfl) ?_))) | ((with_reducible refine Se.isL (o := ⟨some 46, _, _, _, _, _⟩) ?_); (refine Se.toL rfl (Se.ldw (o := ⟨some 46, _, _, _, _, _⟩) hs rfl rfl ((Reads.blk 0 rfl)) ((by rw [XL2.out]; kernel_rfl)) (by kernel_rfl) ?_))) | ((with_reducible refine Se.isL (o := ⟨none, Op.store 59 _ _, _, _, _, _⟩) ?_); (refine Se.toL rfl (Se.sow 2 hs rfl rfl rfl rfl ((by simp [Value.oneCell'])) ((by kernel_rfl)) (rfl) ?_); clear hs; intro w hs; try simp only [List.set_cons_zero, List.set_cons_succ] at hs)) | ((first | with_reducible refine Se.ab hs ?_ | with_reducible refine Se.abc hs ?_); clear hs; (first | (generalize w.heap.size = g3; intro w hs))) | (go_at_call 58; refine Calls.mono (wrong_st' hs i HRI.out) ?_; clear hs; rintro e w ⟨rfl, hs⟩) | (go_at_call 59; refine Calls.mono (rset_st' hs (by simp only [List.mem_cons, HM.out, or_true]) HP.out i HRI.out _ HOX.out HX2.out) ?_; clear hs; rintro e w ⟨A', c', rfl, hs⟩))
          refine Se.ret hs [rv _ _ _, .int .i64 0] rfl ⟨Se.resRow rfl (Reads.blk 2 rfl) (by kernel_rfl) (by kernel_rfl), rfl, trivial⟩ (by simp) rfl ?_
          rw [hf.out]
          exact ⟨_, _, rfl, hs.u31.drop.drop.drop⟩
    · have HRI := Lib.hid (show rng p i = 3 by unfold rng at hri ⊢; split <;> simp_all)
      have hf := Lib.hid (show submit p i n = (p, 3) by unfold submit at'; simp [hb, HRI.out])
      clear hri hb
      go_enter Try.func47, Try.ntmps47
      go_wp2_with (first | ((with_reducible refine Se.isL (o := ⟨some 6, _, _, _, _, _⟩) ?_); (refine Se.toL rfl (Se.al (o := ⟨some 6, _, _, _, _, _⟩) hs rfl (rfl) ?_); clear hs; rintro w g6 - hs)) | ((with_reducible refine Se.isL (o := ⟨some 17, _, _, _, _, _⟩) ?_); (refine Se.toL rfl (Se.ldw (o := ⟨some 17, _, _, _, _, _⟩) hs rfl rfl ((Reads.blk 1 rfl)) ((by kernel_rfl)) (by kernel_rfl) ?_))) | ((with_reducible refine Se.isL (o := ⟨some 22, _, _, _, _, _⟩) ?_); (refine Se.toL rfl (Se.ldw (o := ⟨some 22, _, _, _, _, _⟩) hs rfl rfl ((Reads.blk 1 rfl)) ((by kernel_rfl)) (by kernel_rfl) ?_))) | ((with_reducible refine Se.isL (o := ⟨none, Op.store 59 _ _, _, _, _, _⟩) ?_); (refine Se.toL rfl (Se.sow 0 hs rfl rfl rfl rfl ((by simp [Value.oneCell'])) ((by kernel_rfl)) (rfl) ?_); clear hs; intro w hs; try simp only [List.set_cons_zero] at hs)) | ((first | with_reducible refine Se.ab hs ?_ | with_reducible refine Se.abc hs ?_); clear hs; (first | (generalize w.heap.size = g3; intro w hs))) | (go_at_call 58; refine Calls.mono (wrong_st' hs i HRI.out) ?_; clear hs; rintro e w ⟨rfl, hs⟩))
      refine Se.ret hs [rv _ _ _, .int .i64 3] rfl ⟨Se.resRow rfl (Reads.blk 0 rfl) (by kernel_rfl) (by kernel_rfl), rfl, trivial⟩ (by simp) rfl ?_
      rw [hf.out]
      exact ⟨_, _, rfl, hs.drop.drop.dup HM.out⟩
set_option maxRecDepth 100000 in
set_option maxHeartbeats 4000000 in
theorem rDone_st (hs : St w0 X L w) (hm : At.rd A (cells p.l) ∈ L) (hp : OkP p) (i n : Int) :
    Calls Try.prog 48 #[rv p A c, .int .i64 i, .int .i64 n] w fun e w' => ∃ A' c', e = .returned (.tuple #[rv (done p i n).1 A' c', .int .i64 (done p i n).2]) ∧ St w0 X (.rd A' (cells (done p i n).1.l) :: L) w' := by
  have HP := Lib.hid hp
  obtain ⟨g, off, rfl⟩ := rd_some hs hm hp
  have HM := Lib.hid hm
  clear hm hp
  obtain ⟨z, hz, hz2⟩ := zRL
  have Z := Lib.hid hz
  have ZL := Lib.hid hz2
  clear hz hz2
  have key : byt n = false ∧ (n < 0 ∨ (decide (n < 0) = false ∧ 1099511627776 < n)) ∨ byt n = true ∧ decide (n < 0) = false ∧ decide (1099511627776 < n) = false := by
    unfold byt maxB; simp only [decide_eq_false_iff_not, Bool.and_eq_false_iff, Bool.and_eq_true, decide_eq_true_eq]; omega
  rcases key with ⟨hb, hk⟩ | ⟨hb, hk1, hk2⟩
  · have hf := Lib.hid (show done p i n = (p, 2) by unfold done at'; simp [hb])
    clear hb
    rcases hk with hk | ⟨hk1, hk2⟩
    all_goals
      go_enter Try.func48, Try.ntmps48
      go_wp2_with (first | ((with_reducible refine Se.isL (o := ⟨some 6, _, _, _, _, _⟩) ?_); (refine Se.toL rfl (Se.al (o := ⟨some 6, _, _, _, _, _⟩) hs rfl (rfl) ?_); clear hs; rintro w g6 - hs)) | ((with_reducible refine Se.isL (o := ⟨some 16, _, _, _, _, _⟩) ?_); (refine Se.toL rfl (Se.ldw (o := ⟨some 16, _, _, _, _, _⟩) hs rfl rfl ((Reads.blk 1 rfl)) ((by kernel_rfl)) (by kernel_rfl) ?_))) | ((with_reducible refine Se.isL (o := ⟨none, Op.store 59 _ _, _, _, _, _⟩) ?_); (refine Se.toL rfl (Se.sow 0 hs rfl rfl rfl rfl ((by simp [Value.oneCell'])) ((by kernel_rfl)) (rfl) ?_); clear hs; intro w hs; try simp only [List.set_cons_zero] at hs)) | ((first | with_reducible refine Se.ab hs ?_ | with_reducible refine Se.abc hs ?_); clear hs; (first | (generalize w.heap.size = g3; intro w hs))))
      refine Se.ret hs [rv _ _ _, .int .i64 2] rfl ⟨Se.resRow rfl (Reads.blk 0 rfl) (by kernel_rfl) (by kernel_rfl), rfl, trivial⟩ (by simp) rfl ?_
      rw [hf.out]
      exact ⟨_, _, rfl, hs.drop.drop.dup HM.out⟩
  · by_cases hri : rng p i = 0
    · have hin : 0 ≤ i ∧ i < p.l.length := by unfold rng at hri; split at hri; omega; cases hri
      obtain ⟨hi0, hi1⟩ := hin
      have HRI := Lib.hid hri
      have hok := HP.out.get hri
      obtain ⟨xs, hxs⟩ : ∃ xs, xs = cS (get p i) := ⟨_, rfl⟩
      obtain ⟨b, hb'⟩ : ∃ b, b = (get p i).on := ⟨_, rfl⟩
      obtain ⟨m, hm⟩ : ∃ m, m = (get p i).b := ⟨_, rfl⟩
      have hmb : 0 ≤ m ∧ m ≤ 1099511627776 := by rw [hm]; exact ⟨hok.1, hok.2.1⟩
      obtain ⟨hm1, hm2⟩ := hmb
      have X0 := Lib.hid (show xs[0]? = some (.bool b) by rw [hxs, hb']; rfl)
      have X1 := Lib.hid (show xs[1]? = some (.int .i64 m) by rw [hxs, hm]; rfl)
      have XL := Lib.hid (show xs.length = 131 by rw [hxs]; exact cS_length hok)
      have XO := Lib.hid (show ∀ v ∈ xs, v.oneCell' = true by rw [hxs]; exact cS_one _)
      have RP := Lib.hid (show ∀ L : List At, At.rd (some ⟨g, off, none⟩) (cells p.l) ∈ L → Reads L (some ⟨g, off + i.toNat * 131, none⟩) xs from fun _ h => hxs ▸ r_path HP.out hri (Reads.rdm h))
      have hs0 : done p i n = if m < n then (p, 3) else if b = false then (p, 8) else (put p i { get p i with b := m - n }, 0) := by
        unfold done; dsimp only; rw [show at' p i (byt n) = 0 by rw [hb]; exact hri, if_neg (by simp), ← hb', ← hm]
      by_cases hc : m < n
      · have hf := Lib.hid (show done p i n = (p, 3) by rw [hs0, if_pos hc])
        clear hri hok hxs hb' hm hs0 hb
        go_enter Try.func48, Try.ntmps48
        go_wp2_with (first | ((with_reducible refine Se.isL (o := ⟨some 6, _, _, _, _, _⟩) ?_); (refine Se.toL rfl (Se.al (o := ⟨some 6, _, _, _, _, _⟩) hs rfl (rfl) ?_); clear hs; rintro w g6 - hs)) | ((with_reducible refine Se.isL (o := ⟨some 17, _, _, _, _, _⟩) ?_); (refine Se.toL rfl (Se.ldw (o := ⟨some 17, _, _, _, _, _⟩) hs rfl rfl ((Reads.blk 1 rfl)) ((by kernel_rfl)) (by kernel_rfl) ?_))) | ((with_reducible refine Se.isL (o := ⟨some 25, _, _, _, _, _⟩) ?_); (refine Se.toL rfl (Se.ld (o := ⟨some 25, _, _, _, _, _⟩) hs rfl rfl (Cell.blk 1 rfl rfl) (by kernel_rfl) ?_))) | ((with_reducible refine Se.isL (o := ⟨some 28, _, _, _, _, _⟩) ?_); (refine Se.toL rfl (Se.ldw (o := ⟨some 28, _, _, _, _, _⟩) hs rfl rfl ((RP.out _ (by simp only [List.mem_cons, HM.out, or_true]))) ((by rw [XL.out]; kernel_rfl)) (by kernel_rfl) ?_))) | ((with_reducible refine Se.isL (o := ⟨some 9, _, _, _, _, _⟩) ?_); (refine Se.toL rfl (Se.al (o := ⟨some 9, _, _, _, _, _⟩) hs rfl (Z.out) ?_); clear hs; rintro w g9 - hs)) | ((with_reducible refine Se.isL (o := ⟨none, Op.store 70 _ _, _, _, _, _⟩) ?_); (refine Se.toL rfl (Se.sow 0 hs rfl rfl rfl rfl (XO.out) ((by rw [XL.out]; kernel_rfl)) ((by rw [XL.out, ZL.out])) ?_); clear hs; intro w hs; try simp only [List.set_cons_zero] at hs)) | ((with_reducible refine Se.isL (o := ⟨some 31, _, _, _, _, _⟩) ?_); (refine Se.toL rfl (Se.ld (o := ⟨some 31, _, _, _, _, _⟩) hs rfl rfl (Cell.blk 0 rfl X1.out) (by kernel_rfl) ?_))) | ((with_reducible refine Se.isL (o := ⟨some 33, _, _, _, _, _⟩) ?_); (refine Se.toL rfl (Se.ldw (o := ⟨some 33, _, _, _, _, _⟩) hs rfl rfl ((Reads.blk 2 rfl)) ((by kernel_rfl)) (by kernel_rfl) ?_))) | ((with_reducible refine Se.isL (o := ⟨none, Op.store 59 _ _, _, _, _, _⟩) ?_); (refine Se.toL rfl (Se.sow 1 hs rfl rfl rfl rfl ((by simp [Value.oneCell'])) ((by kernel_rfl)) (rfl) ?_); clear hs; intro w hs; try simp only [List.set_cons_zero, List.set_cons_succ] at hs)) | ((first | with_reducible refine Se.ab hs ?_ | with_reducible refine Se.abc hs ?_); clear hs; (first | (generalize w.heap.size = g3; intro w hs))) | (go_at_call 58; refine Calls.mono (wrong_st' hs i HRI.out) ?_; clear hs; rintro e w ⟨rfl, hs⟩))
        refine Se.ret hs [rv _ _ _, .int .i64 3] rfl ⟨Se.resRow rfl (Reads.blk 1 rfl) (by kernel_rfl) (by kernel_rfl), rfl, trivial⟩ (by simp) rfl ?_
        rw [hf.out]
        exact ⟨_, _, rfl, hs.drop.drop.drop.dup HM.out⟩
      · have hc' : n ≤ m := by omega
        have hcd : decide (m < n) = false := by simpa using hc
        cases b with
        | false =>
          have hf := Lib.hid (show done p i n = (p, 8) by rw [hs0, if_neg hc]; rfl)
          clear hri hok hxs hb' hm hs0 hb hc
          go_enter Try.func48, Try.ntmps48
          go_wp2_with (first | ((with_reducible refine Se.isL (o := ⟨some 6, _, _, _, _, _⟩) ?_); (refine Se.toL rfl (Se.al (o := ⟨some 6, _, _, _, _, _⟩) hs rfl (rfl) ?_); clear hs; rintro w g6 - hs)) | ((with_reducible refine Se.isL (o := ⟨some 17, _, _, _, _, _⟩) ?_); (refine Se.toL rfl (Se.ldw (o := ⟨some 17, _, _, _, _, _⟩) hs rfl rfl ((Reads.blk 1 rfl)) ((by kernel_rfl)) (by kernel_rfl) ?_))) | ((with_reducible refine Se.isL (o := ⟨some 25, _, _, _, _, _⟩) ?_); (refine Se.toL rfl (Se.ld (o := ⟨some 25, _, _, _, _, _⟩) hs rfl rfl (Cell.blk 1 rfl rfl) (by kernel_rfl) ?_))) | ((with_reducible refine Se.isL (o := ⟨some 28, _, _, _, _, _⟩) ?_); (refine Se.toL rfl (Se.ldw (o := ⟨some 28, _, _, _, _, _⟩) hs rfl rfl ((RP.out _ (by simp only [List.mem_cons, HM.out, or_true]))) ((by rw [XL.out]; kernel_rfl)) (by kernel_rfl) ?_))) | ((with_reducible refine Se.isL (o := ⟨some 9, _, _, _, _, _⟩) ?_); (refine Se.toL rfl (Se.al (o := ⟨some 9, _, _, _, _, _⟩) hs rfl (Z.out) ?_); clear hs; rintro w g9 - hs)) | ((with_reducible refine Se.isL (o := ⟨none, Op.store 70 _ _, _, _, _, _⟩) ?_); (refine Se.toL rfl (Se.sow 0 hs rfl rfl rfl rfl (XO.out) ((by rw [XL.out]; kernel_rfl)) ((by rw [XL.out, ZL.out])) ?_); clear hs; intro w hs; try simp only [List.set_cons_zero] at hs)) | ((with_reducible refine Se.isL (o := ⟨some 31, _, _, _, _, _⟩) ?_); (refine Se.toL rfl (Se.ld (o := ⟨some 31, _, _, _, _, _⟩) hs rfl rfl (Cell.blk 0 rfl X1.out) (by kernel_rfl) ?_))) | ((with_reducible refine Se.isL (o := ⟨some 35, _, _, _, _, _⟩) ?_); (refine Se.toL rfl (Se.ld (o := ⟨some 35, _, _, _, _, _⟩) hs rfl rfl (Cell.blk 0 rfl X0.out) (by kernel_rfl) ?_))) | ((with_reducible refine Se.isL (o := ⟨some 37, _, _, _, _, _⟩) ?_); (refine Se.toL rfl (Se.ldw (o := ⟨some 37, _, _, _, _, _⟩) hs rfl rfl ((Reads.blk 2 rfl)) ((by kernel_rfl)) (by kernel_rfl) ?_))) | ((with_reducible refine Se.isL (o := ⟨none, Op.store 59 _ _, _, _, _, _⟩) ?_); (refine Se.toL rfl (Se.sow 1 hs rfl rfl rfl rfl ((by simp [Value.oneCell'])) ((by kernel_rfl)) (rfl) ?_); clear hs; intro w hs; try simp only [List.set_cons_zero, List.set_cons_succ] at hs)) | ((first | with_reducible refine Se.ab hs ?_ | with_reducible refine Se.abc hs ?_); clear hs; (first | (generalize w.heap.size = g3; intro w hs))) | (go_at_call 58; refine Calls.mono (wrong_st' hs i HRI.out) ?_; clear hs; rintro e w ⟨rfl, hs⟩))
          refine Se.ret hs [rv _ _ _, .int .i64 8] rfl ⟨Se.resRow rfl (Reads.blk 1 rfl) (by kernel_rfl) (by kernel_rfl), rfl, trivial⟩ (by simp) rfl ?_
          rw [hf.out]
          exact ⟨_, _, rfl, hs.drop.drop.drop.dup HM.out⟩
        | true =>
          have hf := Lib.hid (show done p i n = (put p i { get p i with b := m - n }, 0) by rw [hs0, if_neg hc, if_neg (by simp)])
          have hn0 : 0 ≤ n := by simpa using hk1
          have hn1 : n ≤ 1099511627776 := by simpa using hk2
          have hmn : 0 ≤ m - n := by omega
          have hokx : okS { get p i with b := m - n } := ⟨by dsimp only; omega, by dsimp only [maxB]; omega, hok.2.2⟩
          obtain ⟨xs2, hxs2⟩ : ∃ xs2, cS { get p i with b := m - n } = xs2 := ⟨_, rfl⟩
          have XL2 := Lib.hid (show xs2.length = 131 by rw [← hxs2]; exact cS_length hokx)
          have XS := Lib.hid (show xs.set 1 (.int .i64 (m - n)) = xs2 by rw [hxs, ← hxs2]; rfl)
          have HX2 := Lib.hid hxs2
          have HOX := Lib.hid hokx
          clear hri hok hxs hb' hm hs0 hb hc hokx hxs2
          go_enter Try.func48, Try.ntmps48
          go_wp2_with (first | ((with_reducible refine Se.isL (o := ⟨some 6, _, _, _, _, _⟩) ?_); (refine Se.toL rfl (Se.al (o := ⟨some 6, _, _, _, _, _⟩) hs rfl (rfl) ?_); clear hs; rintro w g6 - hs)) | ((with_reducible refine Se.isL (o := ⟨some 17, _, _, _, _, _⟩) ?_); (refine Se.toL rfl (Se.ldw (o := ⟨some 17, _, _, _, _, _⟩) hs rfl rfl ((Reads.blk 1 rfl)) ((by kernel_rfl)) (by kernel_rfl) ?_))) | ((with_reducible refine Se.isL (o := ⟨some 25, _, _, _, _, _⟩) ?_); (refine Se.toL rfl (Se.ld (o := ⟨some 25, _, _, _, _, _⟩) hs rfl rfl (Cell.blk 1 rfl rfl) (by kernel_rfl) ?_))) | ((with_reducible refine Se.isL (o := ⟨some 28, _, _, _, _, _⟩) ?_); (refine Se.toL rfl (Se.ldw (o := ⟨some 28, _, _, _, _, _⟩) hs rfl rfl ((RP.out _ (by simp only [List.mem_cons, HM.out, or_true]))) ((by rw [XL.out]; kernel_rfl)) (by kernel_rfl) ?_))) | ((with_reducible refine Se.isL (o := ⟨some 9, _, _, _, _, _⟩) ?_); (refine Se.toL rfl (Se.al (o := ⟨some 9, _, _, _, _, _⟩) hs rfl (Z.out) ?_); clear hs; rintro w g9 - hs)) | ((with_reducible refine Se.isL (o := ⟨none, Op.store 70 _ _, _, _, _, _⟩) ?_); (refine Se.toL rfl (Se.sow 0 hs rfl rfl rfl rfl (XO.out) ((by rw [XL.out]; kernel_rfl)) ((by rw [XL.out, ZL.out])) ?_); clear hs; intro w hs; try simp only [List.set_cons_zero] at hs)) | ((with_reducible refine Se.isL (o := ⟨some 31, _, _, _, _, _⟩) ?_); (refine Se.toL rfl (Se.ld (o := ⟨some 31, _, _, _, _, _⟩) hs rfl rfl (Cell.blk 0 rfl X1.out) (by kernel_rfl) ?_))) | ((with_reducible refine Se.isL (o := ⟨some 35, _, _, _, _, _⟩) ?_); (refine Se.toL rfl (Se.ld (o := ⟨some 35, _, _, _, _, _⟩) hs rfl rfl (Cell.blk 0 rfl X0.out) (by kernel_rfl) ?_))) | ((with_reducible refine Se.isL (o := ⟨some 39, _, _, _, _, _⟩) ?_); (refine Se.toL rfl (Se.ld (o := ⟨some 39, _, _, _, _, _⟩) hs rfl rfl (Cell.blk 0 rfl X1.out) (by kernel_rfl) ?_))) | ((with_reducible refine Se.isL (o := ⟨none, Op.store 3 _ _, _, _, _, _⟩) ?_); ((first | refine Se.toL rfl (Se.soq 0 (v := .int _ _) hs rfl rfl rfl rfl rfl (by kernel_rfl) ((by rw [XL.out]; decide)) (XS.out) ?_) | refine Se.toL rfl (Se.soq 0 (v := .bool _) hs rfl rfl rfl rfl rfl (by kernel_rfl) ((by rw [XL.out]; decide)) (XS.out) ?_) | refine Se.toL rfl (Se.soq 0 (v := .slice _ _ _) hs rfl rfl rfl rfl rfl (by kernel_rfl) ((by rw [XL.out]; decide)) (XS.out) ?_) | refine Se.toL rfl (Se.soq 0 (v := .pointer _) hs rfl rfl rfl rfl rfl (by kernel_rfl) ((by rw [XL.out]; decide)) (XS.out) ?_) | refine Se.toL rfl (Se.soq 0 (v := .string _) hs rfl rfl rfl rfl rfl (by kernel_rfl) ((by rw [XL.out]; decide)) (XS.out) ?_) | refine Se.toL rfl (Se.soq 0 (v := .map _) hs rfl rfl rfl rfl rfl (by kernel_rfl) ((by rw [XL.out]; decide)) (XS.out) ?_) | refine Se.toL rfl (Se.soq 0 (v := .func _ _ _) hs rfl rfl rfl rfl rfl (by kernel_rfl) ((by rw [XL.out]; decide)) (XS.out) ?_) | refine Se.toL rfl (Se.soq 0 (v := .nilFunc) hs rfl rfl rfl rfl rfl (by kernel_rfl) ((by rw [XL.out]; decide)) (XS.out) ?_)); clear hs; intro w hs; try simp only [List.set_cons_zero] at hs)) | ((with_reducible refine Se.isL (o := ⟨some 43, _, _, _, _, _⟩) ?_); (refine Se.toL rfl (Se.ldw (o := ⟨some 43, _, _, _, _, _⟩) hs rfl rfl ((Reads.blk 2 rfl)) ((by kernel_rfl)) (by kernel_rfl) ?_))) | ((with_reducible refine Se.isL (o := ⟨some 45, _, _, _, _, _⟩) ?_); (refine Se.toL rfl (Se.ldw (o := ⟨some 45, _, _, _, _, _⟩) hs rfl rfl ((Reads.blk 0 rfl)) ((by rw [XL2.out]; kernel_rfl)) (by kernel_rfl) ?_))) | ((with_reducible refine Se.isL (o := ⟨none, Op.store 59 _ _, _, _, _, _⟩) ?_); (refine Se.toL rfl (Se.sow 2 hs rfl rfl rfl rfl ((by simp [Value.oneCell'])) ((by kernel_rfl)) (rfl) ?_); clear hs; intro w hs; try simp only [List.set_cons_zero, List.set_cons_succ] at hs)) | ((first | with_reducible refine Se.ab hs ?_ | with_reducible refine Se.abc hs ?_); clear hs; (first | (generalize w.heap.size = g3; intro w hs))) | (go_at_call 58; refine Calls.mono (wrong_st' hs i HRI.out) ?_; clear hs; rintro e w ⟨rfl, hs⟩) | (go_at_call 59; refine Calls.mono (rset_st' hs (by simp only [List.mem_cons, HM.out, or_true]) HP.out i HRI.out _ HOX.out HX2.out) ?_; clear hs; rintro e w ⟨A', c', rfl, hs⟩))
          refine Se.ret hs [rv _ _ _, .int .i64 0] rfl ⟨Se.resRow rfl (Reads.blk 2 rfl) (by kernel_rfl) (by kernel_rfl), rfl, trivial⟩ (by simp) rfl ?_
          rw [hf.out]
          exact ⟨_, _, rfl, hs.u31.drop.drop.drop⟩
    · have HRI := Lib.hid (show rng p i = 3 by unfold rng at hri ⊢; split <;> simp_all)
      have hf := Lib.hid (show done p i n = (p, 3) by unfold done at'; simp [hb, HRI.out])
      clear hri hb
      go_enter Try.func48, Try.ntmps48
      go_wp2_with (first | ((with_reducible refine Se.isL (o := ⟨some 6, _, _, _, _, _⟩) ?_); (refine Se.toL rfl (Se.al (o := ⟨some 6, _, _, _, _, _⟩) hs rfl (rfl) ?_); clear hs; rintro w g6 - hs)) | ((with_reducible refine Se.isL (o := ⟨some 17, _, _, _, _, _⟩) ?_); (refine Se.toL rfl (Se.ldw (o := ⟨some 17, _, _, _, _, _⟩) hs rfl rfl ((Reads.blk 1 rfl)) ((by kernel_rfl)) (by kernel_rfl) ?_))) | ((with_reducible refine Se.isL (o := ⟨some 22, _, _, _, _, _⟩) ?_); (refine Se.toL rfl (Se.ldw (o := ⟨some 22, _, _, _, _, _⟩) hs rfl rfl ((Reads.blk 1 rfl)) ((by kernel_rfl)) (by kernel_rfl) ?_))) | ((with_reducible refine Se.isL (o := ⟨none, Op.store 59 _ _, _, _, _, _⟩) ?_); (refine Se.toL rfl (Se.sow 0 hs rfl rfl rfl rfl ((by simp [Value.oneCell'])) ((by kernel_rfl)) (rfl) ?_); clear hs; intro w hs; try simp only [List.set_cons_zero] at hs)) | ((first | with_reducible refine Se.ab hs ?_ | with_reducible refine Se.abc hs ?_); clear hs; (first | (generalize w.heap.size = g3; intro w hs))) | (go_at_call 58; refine Calls.mono (wrong_st' hs i HRI.out) ?_; clear hs; rintro e w ⟨rfl, hs⟩))
      refine Se.ret hs [rv _ _ _, .int .i64 3] rfl ⟨Se.resRow rfl (Reads.blk 0 rfl) (by kernel_rfl) (by kernel_rfl), rfl, trivial⟩ (by simp) rfl ?_
      rw [hf.out]
      exact ⟨_, _, rfl, hs.drop.drop.dup HM.out⟩
set_option maxRecDepth 100000 in
set_option maxHeartbeats 4000000 in
theorem rConnect_st (hs : St w0 X L w) (hm : At.rd A (cells p.l) ∈ L) (hp : OkP p) (i : Int) (on : Bool) :
    Calls Try.prog 46 #[rv p A c, .int .i64 i, .bool on] w fun e w' => ∃ A' c', e = .returned (.tuple #[rv (turn p i on).1 A' c', .int .i64 (turn p i on).2.1, .int .i64 (turn p i on).2.2]) ∧ St w0 X (.rd A' (cells (turn p i on).1.l) :: L) w' := by
  have HP := Lib.hid hp
  obtain ⟨g, off, rfl⟩ := rd_some hs hm hp
  have HM := Lib.hid hm
  clear hm hp
  obtain ⟨z, hz, hz2⟩ := zRL
  have Z := Lib.hid hz
  have ZL := Lib.hid hz2
  clear hz hz2
  by_cases hri : rng p i = 0
  · have hin : 0 ≤ i ∧ i < p.l.length := by unfold rng at hri; split at hri; omega; cases hri
    obtain ⟨hi0, hi1⟩ := hin
    have HRI := Lib.hid hri
    have hok := HP.out.get hri
    obtain ⟨xs, hxs⟩ : ∃ xs, xs = cS (get p i) := ⟨_, rfl⟩
    obtain ⟨b, hb'⟩ : ∃ b, b = (get p i).on := ⟨_, rfl⟩
    obtain ⟨m, hm⟩ : ∃ m, m = (get p i).b := ⟨_, rfl⟩
    have hmb : 0 ≤ m ∧ m ≤ 1099511627776 := by rw [hm]; exact ⟨hok.1, hok.2.1⟩
    obtain ⟨hm1, hm2⟩ := hmb
    have X0 := Lib.hid (show xs[0]? = some (.bool b) by rw [hxs, hb']; rfl)
    have X1 := Lib.hid (show xs[1]? = some (.int .i64 m) by rw [hxs, hm]; rfl)
    have XL := Lib.hid (show xs.length = 131 by rw [hxs]; exact cS_length hok)
    have XO := Lib.hid (show ∀ v ∈ xs, v.oneCell' = true by rw [hxs]; exact cS_one _)
    have RP := Lib.hid (show ∀ L : List At, At.rd (some ⟨g, off, none⟩) (cells p.l) ∈ L → Reads L (some ⟨g, off + i.toNat * 131, none⟩) xs from fun _ h => hxs ▸ r_path HP.out hri (Reads.rdm h))
    by_cases ho : b = on
    · have hf := Lib.hid (show turn p i on = (p, 0, 8) by unfold turn; dsimp only; rw [if_neg (by simp [hri]), if_pos (hb'.symm.trans ho)])
      subst ho
      clear hri hok hxs hb' hm
      go_enter Try.func46, Try.ntmps46
      go_wp2_with (first | ((with_reducible refine Se.isL (o := ⟨some 6, _, _, _, _, _⟩) ?_); (refine Se.toL rfl (Se.al (o := ⟨some 6, _, _, _, _, _⟩) hs rfl (rfl) ?_); clear hs; rintro w g6 - hs)) | ((with_reducible refine Se.isL (o := ⟨some 12, _, _, _, _, _⟩) ?_); (refine Se.toL rfl (Se.ldw (o := ⟨some 12, _, _, _, _, _⟩) hs rfl rfl ((Reads.blk 1 rfl)) ((by kernel_rfl)) (by kernel_rfl) ?_))) | ((with_reducible refine Se.isL (o := ⟨some 20, _, _, _, _, _⟩) ?_); (refine Se.toL rfl (Se.ld (o := ⟨some 20, _, _, _, _, _⟩) hs rfl rfl (Cell.blk 1 rfl rfl) (by kernel_rfl) ?_))) | ((with_reducible refine Se.isL (o := ⟨some 23, _, _, _, _, _⟩) ?_); (refine Se.toL rfl (Se.ldw (o := ⟨some 23, _, _, _, _, _⟩) hs rfl rfl ((RP.out _ (by simp only [List.mem_cons, HM.out, or_true]))) ((by rw [XL.out]; kernel_rfl)) (by kernel_rfl) ?_))) | ((with_reducible refine Se.isL (o := ⟨some 10, _, _, _, _, _⟩) ?_); (refine Se.toL rfl (Se.al (o := ⟨some 10, _, _, _, _, _⟩) hs rfl (Z.out) ?_); clear hs; rintro w g10 - hs)) | ((with_reducible refine Se.isL (o := ⟨none, Op.store 70 _ _, _, _, _, _⟩) ?_); (refine Se.toL rfl (Se.sow 0 hs rfl rfl rfl rfl (XO.out) ((by rw [XL.out]; kernel_rfl)) ((by rw [XL.out, ZL.out])) ?_); clear hs; intro w hs; try simp only [List.set_cons_zero] at hs)) | ((with_reducible refine Se.isL (o := ⟨some 25, _, _, _, _, _⟩) ?_); (refine Se.toL rfl (Se.ld (o := ⟨some 25, _, _, _, _, _⟩) hs rfl rfl (Cell.blk 0 rfl X0.out) (by kernel_rfl) ?_))) | ((with_reducible refine Se.isL (o := ⟨some 28, _, _, _, _, _⟩) ?_); (refine Se.toL rfl (Se.ldw (o := ⟨some 28, _, _, _, _, _⟩) hs rfl rfl ((Reads.blk 2 rfl)) ((by kernel_rfl)) (by kernel_rfl) ?_))) | ((with_reducible refine Se.isL (o := ⟨none, Op.store 59 _ _, _, _, _, _⟩) ?_); (refine Se.toL rfl (Se.sow 1 hs rfl rfl rfl rfl ((by simp [Value.oneCell'])) ((by kernel_rfl)) (rfl) ?_); clear hs; intro w hs; try simp only [List.set_cons_zero, List.set_cons_succ] at hs)) | ((first | with_reducible refine Se.ab hs ?_ | with_reducible refine Se.abc hs ?_); clear hs; (first | (generalize w.heap.size = g3; intro w hs))) | (go_at_call 58; refine Calls.mono (wrong_st' hs i HRI.out) ?_; clear hs; rintro e w ⟨rfl, hs⟩))
      refine Se.ret hs [rv _ _ _, .int .i64 0, .int .i64 8] rfl ⟨Se.resRow rfl (Reads.blk 1 rfl) (by kernel_rfl) (by kernel_rfl), rfl, rfl, trivial⟩ (by simp) rfl ?_
      rw [hf.out]
      exact ⟨_, _, rfl, hs.drop.drop.drop.dup HM.out⟩
    · have hf := Lib.hid (show turn p i on = (put p i { get p i with on := on, b := 0 }, m, 0) by unfold turn; dsimp only; rw [if_neg (by simp [hri]), if_neg (fun h => ho (hb'.trans h)), ← hm])
      have ho' : (b == on) = false := by simpa using ho
      have hokx : okS { get p i with on := on, b := 0 } := ⟨by simp, by simp [maxB], hok.2.2⟩
      obtain ⟨xs2, hxs2⟩ : ∃ xs2, cS { get p i with on := on, b := 0 } = xs2 := ⟨_, rfl⟩
      have XL2 := Lib.hid (show xs2.length = 131 by rw [← hxs2]; exact cS_length hokx)
      obtain ⟨xs1, hxs1⟩ : ∃ xs1, xs1 = xs.set 0 (.bool on) := ⟨_, rfl⟩
      have XL1 := Lib.hid (show xs1.length = 131 by rw [hxs1]; simpa using XL.out)
      have XS1 := Lib.hid (show xs.set 0 (.bool on) = xs1 from hxs1.symm)
      have XS2 := Lib.hid (show xs1.set 1 (.int .i64 0) = xs2 by rw [hxs1, hxs, ← hxs2]; rfl)
      have HX2 := Lib.hid hxs2
      have HOX := Lib.hid hokx
      clear hri hok hxs hb' hm ho hokx hxs2 hxs1
      go_enter Try.func46, Try.ntmps46
      go_wp2_with (first | ((with_reducible refine Se.isL (o := ⟨some 6, _, _, _, _, _⟩) ?_); (refine Se.toL rfl (Se.al (o := ⟨some 6, _, _, _, _, _⟩) hs rfl (rfl) ?_); clear hs; rintro w g6 - hs)) | ((with_reducible refine Se.isL (o := ⟨some 12, _, _, _, _, _⟩) ?_); (refine Se.toL rfl (Se.ldw (o := ⟨some 12, _, _, _, _, _⟩) hs rfl rfl ((Reads.blk 1 rfl)) ((by kernel_rfl)) (by kernel_rfl) ?_))) | ((with_reducible refine Se.isL (o := ⟨some 20, _, _, _, _, _⟩) ?_); (refine Se.toL rfl (Se.ld (o := ⟨some 20, _, _, _, _, _⟩) hs rfl rfl (Cell.blk 1 rfl rfl) (by kernel_rfl) ?_))) | ((with_reducible refine Se.isL (o := ⟨some 23, _, _, _, _, _⟩) ?_); (refine Se.toL rfl (Se.ldw (o := ⟨some 23, _, _, _, _, _⟩) hs rfl rfl ((RP.out _ (by simp only [List.mem_cons, HM.out, or_true]))) ((by rw [XL.out]; kernel_rfl)) (by kernel_rfl) ?_))) | ((with_reducible refine Se.isL (o := ⟨some 10, _, _, _, _, _⟩) ?_); (refine Se.toL rfl (Se.al (o := ⟨some 10, _, _, _, _, _⟩) hs rfl (Z.out) ?_); clear hs; rintro w g10 - hs)) | ((with_reducible refine Se.isL (o := ⟨none, Op.store 70 _ _, _, _, _, _⟩) ?_); (refine Se.toL rfl (Se.sow 0 hs rfl rfl rfl rfl (XO.out) ((by rw [XL.out]; kernel_rfl)) ((by rw [XL.out, ZL.out])) ?_); clear hs; intro w hs; try simp only [List.set_cons_zero] at hs)) | ((with_reducible refine Se.isL (o := ⟨some 25, _, _, _, _, _⟩) ?_); (refine Se.toL rfl (Se.ld (o := ⟨some 25, _, _, _, _, _⟩) hs rfl rfl (Cell.blk 0 rfl X0.out) (by kernel_rfl) ?_))) | ((with_reducible refine Se.isL (o := ⟨some 30, _, _, _, _, _⟩) ?_); (refine Se.toL rfl (Se.ld (o := ⟨some 30, _, _, _, _, _⟩) hs rfl rfl (Cell.blk 0 rfl X1.out) (by kernel_rfl) ?_))) | ((with_reducible refine Se.isL (o := ⟨none, Op.store 4 _ _, _, _, _, _⟩) ?_); ((first | refine Se.toL rfl (Se.soq 0 (v := .int _ _) hs rfl rfl rfl rfl rfl (by kernel_rfl) ((by rw [XL.out]; decide)) (XS1.out) ?_) | refine Se.toL rfl (Se.soq 0 (v := .bool _) hs rfl rfl rfl rfl rfl (by kernel_rfl) ((by rw [XL.out]; decide)) (XS1.out) ?_) | refine Se.toL rfl (Se.soq 0 (v := .slice _ _ _) hs rfl rfl rfl rfl rfl (by kernel_rfl) ((by rw [XL.out]; decide)) (XS1.out) ?_) | refine Se.toL rfl (Se.soq 0 (v := .pointer _) hs rfl rfl rfl rfl rfl (by kernel_rfl) ((by rw [XL.out]; decide)) (XS1.out) ?_) | refine Se.toL rfl (Se.soq 0 (v := .string _) hs rfl rfl rfl rfl rfl (by kernel_rfl) ((by rw [XL.out]; decide)) (XS1.out) ?_) | refine Se.toL rfl (Se.soq 0 (v := .map _) hs rfl rfl rfl rfl rfl (by kernel_rfl) ((by rw [XL.out]; decide)) (XS1.out) ?_) | refine Se.toL rfl (Se.soq 0 (v := .func _ _ _) hs rfl rfl rfl rfl rfl (by kernel_rfl) ((by rw [XL.out]; decide)) (XS1.out) ?_) | refine Se.toL rfl (Se.soq 0 (v := .nilFunc) hs rfl rfl rfl rfl rfl (by kernel_rfl) ((by rw [XL.out]; decide)) (XS1.out) ?_)); clear hs; intro w hs; try simp only [List.set_cons_zero] at hs)) | ((with_reducible refine Se.isL (o := ⟨none, Op.store 3 _ _, _, _, _, _⟩) ?_); ((first | refine Se.toL rfl (Se.soq 0 (v := .int _ _) hs rfl rfl rfl rfl rfl (by kernel_rfl) ((by rw [XL1.out]; decide)) (XS2.out) ?_) | refine Se.toL rfl (Se.soq 0 (v := .bool _) hs rfl rfl rfl rfl rfl (by kernel_rfl) ((by rw [XL1.out]; decide)) (XS2.out) ?_) | refine Se.toL rfl (Se.soq 0 (v := .slice _ _ _) hs rfl rfl rfl rfl rfl (by kernel_rfl) ((by rw [XL1.out]; decide)) (XS2.out) ?_) | refine Se.toL rfl (Se.soq 0 (v := .pointer _) hs rfl rfl rfl rfl rfl (by kernel_rfl) ((by rw [XL1.out]; decide)) (XS2.out) ?_) | refine Se.toL rfl (Se.soq 0 (v := .string _) hs rfl rfl rfl rfl rfl (by kernel_rfl) ((by rw [XL1.out]; decide)) (XS2.out) ?_) | refine Se.toL rfl (Se.soq 0 (v := .map _) hs rfl rfl rfl rfl rfl (by kernel_rfl) ((by rw [XL1.out]; decide)) (XS2.out) ?_) | refine Se.toL rfl (Se.soq 0 (v := .func _ _ _) hs rfl rfl rfl rfl rfl (by kernel_rfl) ((by rw [XL1.out]; decide)) (XS2.out) ?_) | refine Se.toL rfl (Se.soq 0 (v := .nilFunc) hs rfl rfl rfl rfl rfl (by kernel_rfl) ((by rw [XL1.out]; decide)) (XS2.out) ?_)); clear hs; intro w hs; try simp only [List.set_cons_zero] at hs)) | ((with_reducible refine Se.isL (o := ⟨some 34, _, _, _, _, _⟩) ?_); (refine Se.toL rfl (Se.ldw (o := ⟨some 34, _, _, _, _, _⟩) hs rfl rfl ((Reads.blk 2 rfl)) ((by kernel_rfl)) (by kernel_rfl) ?_))) | ((with_reducible refine Se.isL (o := ⟨some 36, _, _, _, _, _⟩) ?_); (refine Se.toL rfl (Se.ldw (o := ⟨some 36, _, _, _, _, _⟩) hs rfl rfl ((Reads.blk 0 rfl)) ((by rw [XL2.out]; kernel_rfl)) (by kernel_rfl) ?_))) | ((with_reducible refine Se.isL (o := ⟨none, Op.store 59 _ _, _, _, _, _⟩) ?_); (refine Se.toL rfl (Se.sow 2 hs rfl rfl rfl rfl ((by simp [Value.oneCell'])) ((by kernel_rfl)) (rfl) ?_); clear hs; intro w hs; try simp only [List.set_cons_zero, List.set_cons_succ] at hs)) | ((first | with_reducible refine Se.ab hs ?_ | with_reducible refine Se.abc hs ?_); clear hs; (first | (generalize w.heap.size = g3; intro w hs))) | (go_at_call 58; refine Calls.mono (wrong_st' hs i HRI.out) ?_; clear hs; rintro e w ⟨rfl, hs⟩) | (go_at_call 59; refine Calls.mono (rset_st' hs (by simp only [List.mem_cons, HM.out, or_true]) HP.out i HRI.out _ HOX.out HX2.out) ?_; clear hs; rintro e w ⟨A', c', rfl, hs⟩))
      refine Se.ret hs [rv _ _ _, .int .i64 m, .int .i64 0] rfl ⟨Se.resRow rfl (Reads.blk 2 rfl) (by kernel_rfl) (by kernel_rfl), rfl, rfl, trivial⟩ (by simp) rfl ?_
      rw [hf.out]
      exact ⟨_, _, rfl, hs.u31.drop.drop.drop⟩
  · have HRI := Lib.hid (show rng p i = 3 by unfold rng at hri ⊢; split <;> simp_all)
    have hf := Lib.hid (show turn p i on = (p, 0, 3) by unfold turn; simp [HRI.out])
    clear hri
    go_enter Try.func46, Try.ntmps46
    go_wp2_with (first | ((with_reducible refine Se.isL (o := ⟨some 6, _, _, _, _, _⟩) ?_); (refine Se.toL rfl (Se.al (o := ⟨some 6, _, _, _, _, _⟩) hs rfl (rfl) ?_); clear hs; rintro w g6 - hs)) | ((with_reducible refine Se.isL (o := ⟨some 12, _, _, _, _, _⟩) ?_); (refine Se.toL rfl (Se.ldw (o := ⟨some 12, _, _, _, _, _⟩) hs rfl rfl ((Reads.blk 1 rfl)) ((by kernel_rfl)) (by kernel_rfl) ?_))) | ((with_reducible refine Se.isL (o := ⟨some 17, _, _, _, _, _⟩) ?_); (refine Se.toL rfl (Se.ldw (o := ⟨some 17, _, _, _, _, _⟩) hs rfl rfl ((Reads.blk 1 rfl)) ((by kernel_rfl)) (by kernel_rfl) ?_))) | ((with_reducible refine Se.isL (o := ⟨none, Op.store 59 _ _, _, _, _, _⟩) ?_); (refine Se.toL rfl (Se.sow 0 hs rfl rfl rfl rfl ((by simp [Value.oneCell'])) ((by kernel_rfl)) (rfl) ?_); clear hs; intro w hs; try simp only [List.set_cons_zero] at hs)) | ((first | with_reducible refine Se.ab hs ?_ | with_reducible refine Se.abc hs ?_); clear hs; (first | (generalize w.heap.size = g3; intro w hs))) | (go_at_call 58; refine Calls.mono (wrong_st' hs i HRI.out) ?_; clear hs; rintro e w ⟨rfl, hs⟩))
    refine Se.ret hs [rv _ _ _, .int .i64 0, .int .i64 3] rfl ⟨Se.resRow rfl (Reads.blk 0 rfl) (by kernel_rfl) (by kernel_rfl), rfl, rfl, trivial⟩ (by simp) rfl ?_
    rw [hf.out]
    exact ⟨_, _, rfl, hs.drop.drop.dup HM.out⟩
end Pa
end Go.Proofs.Ytplhelhijjmlaaa

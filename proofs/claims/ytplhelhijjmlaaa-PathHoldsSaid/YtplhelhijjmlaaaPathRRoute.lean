/- Layer 45: the reference's Route. Printed by wip/gen_rroute.py. -/
import Derived.Test.YtplhelhijjmlaaaPathRPick
set_option linter.unusedSimpArgs false
set_option linter.unusedVariables false
namespace Go.Proofs.Ytplhelhijjmlaaa
open Go Go.RowKit
namespace Pa
open Se (St At Reads Cell)
variable {w0 w : World} {X : List Nat} {L : List At} {A : Option Addr} {c : Nat} {p : PP}
theorem rLearn_st' (hs : St w0 X L w) (hm : At.rd A (cells p.l) ∈ L) (hp : OkP p) (i gr : Int) (s : Sta) {q : PP} {y : Int} (hq : learn p i gr s = (q, y)) :
    Calls Try.prog 49 #[rv p A c, .int .i64 i, .int .i64 gr, stv s] w fun e w' => ∃ A' c', e = .returned (.tuple #[rv q A' c', .int .i64 y]) ∧ St w0 X (.rd A' (cells q.l) :: L) w' := by
  have := rLearn_st (c := c) hs hm hp i gr s
  rwa [hq] at this
theorem rdecide_st' (hs : St w0 X L w) (s : Sta) (hS : okSt s) {d : Int} (hd : decide' s = d) :
    Calls Try.prog 10 #[stv s] w fun e w' => e = .returned (.int .i64 d) ∧ St w0 X L w' := hd ▸ rdecide_st hs s hS
theorem rPick_st' (hs : St w0 X L w) (hm : At.rd A (cells p.l) ∈ L) (hp : OkP p) (gr : Int) {n y : Int} (hq : pick p gr = (n, y)) :
    Calls Try.prog 51 #[rv p A c, .int .i64 gr] w fun e w' => e = .returned (.tuple #[.int .i64 n, .int .i64 y]) ∧ St w0 X L w' := by
  have := rPick_st (c := c) hs hm hp gr
  rwa [hq] at this
theorem dec_cases (s : Sta) : decide' s = 1 ∨ decide' s = 2 ∨ decide' s = 3 ∨ decide' s = 4 := by
  unfold decide'; repeat' split
  all_goals simp
theorem pick_cases (p : PP) {g : Int} (hg : grp g = true) : ∃ n, pick p g = (n, 0) ∨ pick p g = (0, 9) ∨ pick p g = (0, 11) := by
  unfold pick
  rw [if_neg (by simp [hg])]
  split
  · exact ⟨_, .inl rfl⟩
  · split
    · exact ⟨_, .inl rfl⟩
    · exact ⟨0, by split <;> simp⟩
theorem learn_len (p : PP) (i g : Int) (s : Sta) : (learn p i g s).1.l.length = p.l.length := by
  unfold learn; dsimp only; repeat' split
  all_goals simp [put]
theorem learn_tries (p : PP) (i g : Int) (s : Sta) : (learn p i g s).1.tries = p.tries := by
  unfold learn; dsimp only; repeat' split
  all_goals simp [put]
theorem learn_err (p : PP) (i g : Int) (s : Sta) : (learn p i g s).2 = at' p i (grp g) := by
  unfold learn; dsimp only; split
  · rfl
  · rename_i h; split <;> simp_all
set_option maxRecDepth 100000 in
set_option maxHeartbeats 8000000 in
theorem rRoute_st (hs : St w0 X L w) (hm : At.rd A (cells p.l) ∈ L) (hp : OkP p) (i gr : Int) (s : Sta) (hS : okSt s) (tr : Int) :
    Calls Try.prog 50 #[rv p A c, .int .i64 i, .int .i64 gr, stv s, .int .i64 tr] w fun e w' => ∃ A' c', e = .returned (.tuple #[rv (route p i gr s tr).1 A' c', .int .i64 (route p i gr s tr).2.1, .int .i64 (route p i gr s tr).2.2.1, .int .i64 (route p i gr s tr).2.2.2]) ∧ St w0 X (.rd A' (cells (route p i gr s tr).1.l) :: L) w' := by
  have HP := Lib.hid hp
  obtain ⟨g, off, rfl⟩ := rd_some hs hm hp
  have HM := Lib.hid hm
  clear hm
  obtain ⟨ty, code, more, never⟩ := s
  have HS := Lib.hid hS
  clear hS
  by_cases ht : tr < 0
  · have hf := Lib.hid (show route p i gr ⟨ty, code, more, never⟩ tr = (p, 0, 0, 2) by
      unfold route at'; have : decide (0 ≤ tr) = false := by simpa using ht
      simp [this])
    clear hp
    go_enter Try.func50, Try.ntmps50
    go_wp2_with (first | ((with_reducible refine Se.isL (o := ⟨some 10, _, _, _, _, _⟩) ?_); (refine Se.toL rfl (Se.al (o := ⟨some 10, _, _, _, _, _⟩) hs rfl (rfl) ?_); clear hs; rintro w g10 - hs)) | ((with_reducible refine Se.isL (o := ⟨some 21, _, _, _, _, _⟩) ?_); (refine Se.toL rfl (Se.ldw (o := ⟨some 21, _, _, _, _, _⟩) hs rfl rfl ((Reads.blk 2 rfl)) ((by kernel_rfl)) (by kernel_rfl) ?_))) | ((with_reducible refine Se.isL (o := ⟨none, Op.store 59 _ _, _, _, _, _⟩) ?_); (refine Se.toL rfl (Se.sow 0 hs rfl rfl rfl rfl ((by simp [Value.oneCell'])) ((by kernel_rfl)) (rfl) ?_); clear hs; intro w hs; try simp only [List.set_cons_zero] at hs)) | ((first | with_reducible refine Se.ab hs ?_ | with_reducible refine Se.abc hs ?_); clear hs; (first | ((fail_if_success (have _q := g5)); generalize w.heap.size = g5; intro w hs) | (generalize w.heap.size = g8; intro w hs))))
    refine Se.ret hs [rv _ _ _, .int .i64 0, .int .i64 0, .int .i64 2] rfl ⟨Se.resRow rfl (Reads.blk 0 rfl) (by kernel_rfl) (by kernel_rfl), rfl, rfl, rfl, trivial⟩ (by simp) rfl ?_
    rw [hf.out]
    exact ⟨_, _, rfl, hs.drop.drop.drop.dup HM.out⟩
  · have ht0 : decide (0 ≤ tr) = true := by simpa using ht
    have htf : decide (tr < 0) = false := by simpa using ht
    obtain ⟨q, hq⟩ : ∃ q, q = (learn p i gr ⟨ty, code, more, never⟩).1 := ⟨_, rfl⟩
    obtain ⟨y, hy⟩ : ∃ y, y = at' p i (grp gr) := ⟨_, rfl⟩
    have HQ := Lib.hid (show learn p i gr ⟨ty, code, more, never⟩ = (q, y) by rw [hq, hy, ← learn_err p i gr ⟨ty, code, more, never⟩])
    obtain ⟨d, hd⟩ : ∃ d, decide' ⟨ty, code, more, never⟩ = d := ⟨_, rfl⟩
    have HD := Lib.hid hd
    have hrt : route p i gr ⟨ty, code, more, never⟩ tr = if y ≠ 0 then (p, 0, 0, y) else
        if d = 1 ∨ d = 4 then (q, 0, d, 0) else
        if p.tries ≤ tr then (q, 0, 4, 0) else
        if d = 2 ∧ (get q i).on = true then (q, i, 2, 0) else
        if (pick q gr).2 = 0 then (q, (pick q gr).1, 3, 0) else if (pick q gr).2 = 11 then (q, 0, 5, 0) else (q, 0, 4, 0) := by
      unfold route; rw [ht0, Bool.and_true, ← hq, ← hy, hd]
    by_cases hz : y = 0
    · have hz0 := hz
      rw [if_neg (by simpa using hz)] at hrt
      obtain ⟨hgg, hri⟩ := at_ok (hy.symm.trans hz)
      have HOQ := Lib.hid (show OkP q by rw [hq]; exact learn_ok hp i gr _)
      have hql : q.l.length = p.l.length := by rw [hq]; exact learn_len p i gr _
      have hqt : q.tries = p.tries := by rw [hq]; exact learn_tries p i gr _
      have HRQ := Lib.hid (show rng q i = 0 by unfold rng at hri ⊢; rw [hql]; exact hri)
      have hin : 0 ≤ i ∧ i < q.l.length := by rw [hql]; unfold rng at hri; split at hri; omega; cases hri
      obtain ⟨hi0, hi1⟩ := hin
      have HGG := Lib.hid hgg
      subst hz
      have hdc : d = 1 ∨ d = 2 ∨ d = 3 ∨ d = 4 := by rw [← hd]; exact dec_cases _
      clear hp hq hy hd hgg hri ht hz0 hql ht0 hqt
      by_cases hd14 : d = 1 ∨ d = 4
      · rw [if_pos hd14] at hrt
        have hf := Lib.hid hrt
        clear hrt hdc
        rcases hd14 with rfl | rfl
        all_goals
          go_enter Try.func50, Try.ntmps50
          go_wp2_with (first | ((with_reducible refine Se.isL (o := ⟨some 10, _, _, _, _, _⟩) ?_); (refine Se.toL rfl (Se.al (o := ⟨some 10, _, _, _, _, _⟩) hs rfl (rfl) ?_); clear hs; rintro w g10 - hs)) | ((with_reducible refine Se.isL (o := ⟨some 23, _, _, _, _, _⟩) ?_); (refine Se.toL rfl (Se.ldw (o := ⟨some 23, _, _, _, _, _⟩) hs rfl rfl ((Reads.blk 2 rfl)) ((by kernel_rfl)) (by kernel_rfl) ?_))) | ((with_reducible refine Se.isL (o := ⟨some 26, _, _, _, _, _⟩) ?_); (refine Se.toL rfl (Se.ldw (o := ⟨some 26, _, _, _, _, _⟩) hs rfl rfl ((Reads.blk 1 rfl)) ((by kernel_rfl)) (by kernel_rfl) ?_))) | ((with_reducible refine Se.isL (o := ⟨some 14, _, _, _, _, _⟩) ?_); (refine Se.toL rfl (Se.al (o := ⟨some 14, _, _, _, _, _⟩) hs rfl (rfl) ?_); clear hs; rintro w g14 - hs)) | ((with_reducible refine Se.isL (o := ⟨none, Op.store 59 _ _, _, _, _, _⟩) ?_); (refine Se.toL rfl (Se.sow 0 hs rfl rfl rfl rfl ((by simp [Value.oneCell'])) ((by kernel_rfl)) (rfl) ?_); clear hs; intro w hs; try simp only [List.set_cons_zero] at hs)) | ((with_reducible refine Se.isL (o := ⟨some 34, _, _, _, _, _⟩) ?_); (refine Se.toL rfl (Se.ldw (o := ⟨some 34, _, _, _, _, _⟩) hs rfl rfl ((Reads.blk 3 rfl)) ((by kernel_rfl)) (by kernel_rfl) ?_))) | ((with_reducible refine Se.isL (o := ⟨some 42, _, _, _, _, _⟩) ?_); (refine Se.toL rfl (Se.ldw (o := ⟨some 42, _, _, _, _, _⟩) hs rfl rfl ((Reads.blk 0 rfl)) ((by kernel_rfl)) (by kernel_rfl) ?_))) | ((with_reducible refine Se.isL (o := ⟨none, Op.store 59 _ _, _, _, _, _⟩) ?_); (refine Se.toL rfl (Se.sow 2 hs rfl rfl rfl rfl ((by simp [Value.oneCell'])) ((by kernel_rfl)) (rfl) ?_); clear hs; intro w hs; try simp only [List.set_cons_zero, List.set_cons_succ] at hs)) | ((first | with_reducible refine Se.ab hs ?_ | with_reducible refine Se.abc hs ?_); clear hs; (first | ((fail_if_success (have _q := g5)); generalize w.heap.size = g5; intro w hs) | (generalize w.heap.size = g8; intro w hs))) | (go_at_call 49; refine Calls.mono (rLearn_st' hs (by simp only [List.mem_cons, HM.out, or_true]) HP.out i gr ⟨ty, code, more, never⟩ HQ.out) ?_; clear hs; rintro e w ⟨A', c', rfl, hs⟩) | (go_at_call 10; refine Calls.mono (rdecide_st' hs ⟨ty, code, more, never⟩ HS.out HD.out) ?_; clear hs; rintro e w ⟨rfl, hs⟩))
          refine Se.ret hs [rv _ _ _, .int .i64 0, .int .i64 _, .int .i64 0] rfl ⟨Se.resRow rfl (Reads.blk 2 rfl) (by kernel_rfl) (by kernel_rfl), rfl, rfl, rfl, trivial⟩ (by simp) rfl ?_
          rw [hf.out]
          exact ⟨_, _, rfl, hs.drop.u31.drop.drop.drop⟩
      · rw [if_neg hd14] at hrt
        have hd23 : d = 2 ∨ d = 3 := by omega
        clear hdc hd14
        by_cases htt : p.tries ≤ tr
        · rw [if_pos htt] at hrt
          have hf := Lib.hid hrt
          clear hrt
          rcases hd23 with rfl | rfl
          all_goals
            go_enter Try.func50, Try.ntmps50
            go_wp2_with (first | ((with_reducible refine Se.isL (o := ⟨some 10, _, _, _, _, _⟩) ?_); (refine Se.toL rfl (Se.al (o := ⟨some 10, _, _, _, _, _⟩) hs rfl (rfl) ?_); clear hs; rintro w g10 - hs)) | ((with_reducible refine Se.isL (o := ⟨some 23, _, _, _, _, _⟩) ?_); (refine Se.toL rfl (Se.ldw (o := ⟨some 23, _, _, _, _, _⟩) hs rfl rfl ((Reads.blk 2 rfl)) ((by kernel_rfl)) (by kernel_rfl) ?_))) | ((with_reducible refine Se.isL (o := ⟨some 26, _, _, _, _, _⟩) ?_); (refine Se.toL rfl (Se.ldw (o := ⟨some 26, _, _, _, _, _⟩) hs rfl rfl ((Reads.blk 1 rfl)) ((by kernel_rfl)) (by kernel_rfl) ?_))) | ((with_reducible refine Se.isL (o := ⟨some 14, _, _, _, _, _⟩) ?_); (refine Se.toL rfl (Se.al (o := ⟨some 14, _, _, _, _, _⟩) hs rfl (rfl) ?_); clear hs; rintro w g14 - hs)) | ((with_reducible refine Se.isL (o := ⟨none, Op.store 59 _ _, _, _, _, _⟩) ?_); (refine Se.toL rfl (Se.sow 0 hs rfl rfl rfl rfl ((by simp [Value.oneCell'])) ((by kernel_rfl)) (rfl) ?_); clear hs; intro w hs; try simp only [List.set_cons_zero] at hs)) | ((with_reducible refine Se.isL (o := ⟨some 34, _, _, _, _, _⟩) ?_); (refine Se.toL rfl (Se.ldw (o := ⟨some 34, _, _, _, _, _⟩) hs rfl rfl ((Reads.blk 3 rfl)) ((by kernel_rfl)) (by kernel_rfl) ?_))) | ((with_reducible refine Se.isL (o := ⟨some 46, _, _, _, _, _⟩) ?_); (refine Se.toL rfl (Se.ld (o := ⟨some 46, _, _, _, _, _⟩) hs rfl rfl (Cell.blk 4 rfl rfl) (by kernel_rfl) ?_))) | ((with_reducible refine Se.isL (o := ⟨some 48, _, _, _, _, _⟩) ?_); (refine Se.toL rfl (Se.ldw (o := ⟨some 48, _, _, _, _, _⟩) hs rfl rfl ((Reads.blk 0 rfl)) ((by kernel_rfl)) (by kernel_rfl) ?_))) | ((with_reducible refine Se.isL (o := ⟨none, Op.store 59 _ _, _, _, _, _⟩) ?_); (refine Se.toL rfl (Se.sow 2 hs rfl rfl rfl rfl ((by simp [Value.oneCell'])) ((by kernel_rfl)) (rfl) ?_); clear hs; intro w hs; try simp only [List.set_cons_zero, List.set_cons_succ] at hs)) | ((first | with_reducible refine Se.ab hs ?_ | with_reducible refine Se.abc hs ?_); clear hs; (first | ((fail_if_success (have _q := g5)); generalize w.heap.size = g5; intro w hs) | (generalize w.heap.size = g8; intro w hs))) | (go_at_call 49; refine Calls.mono (rLearn_st' hs (by simp only [List.mem_cons, HM.out, or_true]) HP.out i gr ⟨ty, code, more, never⟩ HQ.out) ?_; clear hs; rintro e w ⟨A', c', rfl, hs⟩) | (go_at_call 10; refine Calls.mono (rdecide_st' hs ⟨ty, code, more, never⟩ HS.out HD.out) ?_; clear hs; rintro e w ⟨rfl, hs⟩))
            refine Se.ret hs [rv _ _ _, .int .i64 0, .int .i64 4, .int .i64 0] rfl ⟨Se.resRow rfl (Reads.blk 2 rfl) (by kernel_rfl) (by kernel_rfl), rfl, rfl, rfl, trivial⟩ (by simp) rfl ?_
            rw [hf.out]
            exact ⟨_, _, rfl, hs.drop.u31.drop.drop.drop⟩
        · rw [if_neg htt] at hrt
          have htt' : tr < p.tries := by omega
          obtain ⟨b, hb⟩ : ∃ b, b = (get q i).on := ⟨_, rfl⟩
          rw [← hb] at hrt
          have HON := Lib.hid (show ∀ (L : List At) (A' : Option Addr) (g' off' : Nat), A' = some ⟨g', off', none⟩ → At.rd A' (cells q.l) ∈ L → Cell L g' (off' + i.toNat * 131) (.bool b) from fun _ _ _ _ e h => by
            subst e
            exact hb ▸ (r_path HOQ.out HRQ.out (Reads.rdm h)).cell 0 rfl)
          clear hb htt
          by_cases hdb : d = 2 ∧ b = true
          · rw [if_pos hdb] at hrt
            have hf := Lib.hid hrt
            obtain ⟨rfl, rfl⟩ := hdb
            clear hrt hd23
            go_enter Try.func50, Try.ntmps50
            go_upto_region 11 with (first | ((with_reducible refine Se.isL (o := ⟨some 10, _, _, _, _, _⟩) ?_); (refine Se.toL rfl (Se.al (o := ⟨some 10, _, _, _, _, _⟩) hs rfl (rfl) ?_); clear hs; rintro w g10 - hs)) | ((with_reducible refine Se.isL (o := ⟨some 23, _, _, _, _, _⟩) ?_); (refine Se.toL rfl (Se.ldw (o := ⟨some 23, _, _, _, _, _⟩) hs rfl rfl ((Reads.blk 2 rfl)) ((by kernel_rfl)) (by kernel_rfl) ?_))) | ((with_reducible refine Se.isL (o := ⟨some 26, _, _, _, _, _⟩) ?_); (refine Se.toL rfl (Se.ldw (o := ⟨some 26, _, _, _, _, _⟩) hs rfl rfl ((Reads.blk 1 rfl)) ((by kernel_rfl)) (by kernel_rfl) ?_))) | ((with_reducible refine Se.isL (o := ⟨some 14, _, _, _, _, _⟩) ?_); (refine Se.toL rfl (Se.al (o := ⟨some 14, _, _, _, _, _⟩) hs rfl (rfl) ?_); clear hs; rintro w g14 - hs)) | ((with_reducible refine Se.isL (o := ⟨none, Op.store 59 _ _, _, _, _, _⟩) ?_); (refine Se.toL rfl (Se.sow 0 hs rfl rfl rfl rfl ((by simp [Value.oneCell'])) ((by kernel_rfl)) (rfl) ?_); clear hs; intro w hs; try simp only [List.set_cons_zero] at hs)) | ((with_reducible refine Se.isL (o := ⟨some 34, _, _, _, _, _⟩) ?_); (refine Se.toL rfl (Se.ldw (o := ⟨some 34, _, _, _, _, _⟩) hs rfl rfl ((Reads.blk 3 rfl)) ((by kernel_rfl)) (by kernel_rfl) ?_))) | ((with_reducible refine Se.isL (o := ⟨some 46, _, _, _, _, _⟩) ?_); (refine Se.toL rfl (Se.ld (o := ⟨some 46, _, _, _, _, _⟩) hs rfl rfl (Cell.blk 4 rfl rfl) (by kernel_rfl) ?_))) | ((first | with_reducible refine Se.ab hs ?_ | with_reducible refine Se.abc hs ?_); clear hs; (first | ((fail_if_success (have _q := g5)); generalize w.heap.size = g5; intro w hs) | (generalize w.heap.size = g8; intro w hs))) | (go_at_call 49; refine Calls.mono (rLearn_st' hs (by simp only [List.mem_cons, HM.out, or_true]) HP.out i gr ⟨ty, code, more, never⟩ HQ.out) ?_; clear hs; rintro e w ⟨A', c', rfl, hs⟩) | (go_at_call 10; refine Calls.mono (rdecide_st' hs ⟨ty, code, more, never⟩ HS.out HD.out) ?_; clear hs; rintro e w ⟨rfl, hs⟩))
            obtain ⟨g', off', rfl⟩ := rd_some hs (List.mem_cons_of_mem _ List.mem_cons_self) HOQ.out
            have C57 := Lib.hid (HON.out _ _ g' off' rfl (List.mem_cons_of_mem (a := At.rd (some ⟨g', off', none⟩) (cells q.l)) (.blk g14 59 (rvl q (some ⟨g', off', none⟩) c')) (List.mem_cons_self (l := .blk g10 59 [.int .i64 0, .slice none 0 0] :: .blk g8 23 [.int .u8 ty, .int .u8 code, .bool more, .bool never] :: .blk g5 59 (rvl p (some ⟨g, off, none⟩) c) :: L))))
            go_wp2_with (first | ((with_reducible refine Se.isL (o := ⟨some 53, _, _, _, _, _⟩) ?_); (refine Se.toL rfl (Se.ld (o := ⟨some 53, _, _, _, _, _⟩) hs rfl rfl (Cell.blk 0 rfl rfl) (by kernel_rfl) ?_))) | ((with_reducible refine Se.isL (o := ⟨some 57, _, _, _, _, _⟩) ?_); (refine Se.toL rfl (Se.ld (o := ⟨some 57, _, _, _, _, _⟩) hs rfl rfl (C57.out) (by kernel_rfl) ?_))) | ((with_reducible refine Se.isL (o := ⟨some 59, _, _, _, _, _⟩) ?_); (refine Se.toL rfl (Se.ldw (o := ⟨some 59, _, _, _, _, _⟩) hs rfl rfl ((Reads.blk 0 rfl)) ((by kernel_rfl)) (by kernel_rfl) ?_))) | ((with_reducible refine Se.isL (o := ⟨none, Op.store 59 _ _, _, _, _, _⟩) ?_); (refine Se.toL rfl (Se.sow 2 hs rfl rfl rfl rfl ((by simp [Value.oneCell'])) ((by kernel_rfl)) (rfl) ?_); clear hs; intro w hs; try simp only [List.set_cons_zero, List.set_cons_succ] at hs)))
            refine Se.ret hs [rv _ _ _, .int .i64 i, .int .i64 2, .int .i64 0] rfl ⟨Se.resRow rfl (Reads.blk 2 rfl) (by kernel_rfl) (by kernel_rfl), rfl, rfl, rfl, trivial⟩ (by simp) rfl ?_
            rw [hf.out]
            exact ⟨_, _, rfl, hs.drop.u31.drop.drop.drop⟩
          · rw [if_neg hdb] at hrt
            obtain ⟨n, hpk⟩ := pick_cases q HGG.out
            have hdb' : (d = 2 ∧ b = false) ∨ d = 3 := by
              rcases hd23 with rfl | rfl
              · left; exact ⟨rfl, by cases b <;> simp_all⟩
              · exact .inr rfl
            clear hdb hd23
            rcases hpk with hpk | hpk | hpk
            · have HPK := Lib.hid hpk
              rw [hpk] at hrt
              simp at hrt
              have hf := Lib.hid hrt
              clear hrt hpk
              rcases hdb' with ⟨rfl, rfl⟩ | rfl
              all_goals
                go_enter Try.func50, Try.ntmps50
                go_upto_region 11 with (first | ((with_reducible refine Se.isL (o := ⟨some 10, _, _, _, _, _⟩) ?_); (refine Se.toL rfl (Se.al (o := ⟨some 10, _, _, _, _, _⟩) hs rfl (rfl) ?_); clear hs; rintro w g10 - hs)) | ((with_reducible refine Se.isL (o := ⟨some 23, _, _, _, _, _⟩) ?_); (refine Se.toL rfl (Se.ldw (o := ⟨some 23, _, _, _, _, _⟩) hs rfl rfl ((Reads.blk 2 rfl)) ((by kernel_rfl)) (by kernel_rfl) ?_))) | ((with_reducible refine Se.isL (o := ⟨some 26, _, _, _, _, _⟩) ?_); (refine Se.toL rfl (Se.ldw (o := ⟨some 26, _, _, _, _, _⟩) hs rfl rfl ((Reads.blk 1 rfl)) ((by kernel_rfl)) (by kernel_rfl) ?_))) | ((with_reducible refine Se.isL (o := ⟨some 14, _, _, _, _, _⟩) ?_); (refine Se.toL rfl (Se.al (o := ⟨some 14, _, _, _, _, _⟩) hs rfl (rfl) ?_); clear hs; rintro w g14 - hs)) | ((with_reducible refine Se.isL (o := ⟨none, Op.store 59 _ _, _, _, _, _⟩) ?_); (refine Se.toL rfl (Se.sow 0 hs rfl rfl rfl rfl ((by simp [Value.oneCell'])) ((by kernel_rfl)) (rfl) ?_); clear hs; intro w hs; try simp only [List.set_cons_zero] at hs)) | ((with_reducible refine Se.isL (o := ⟨some 34, _, _, _, _, _⟩) ?_); (refine Se.toL rfl (Se.ldw (o := ⟨some 34, _, _, _, _, _⟩) hs rfl rfl ((Reads.blk 3 rfl)) ((by kernel_rfl)) (by kernel_rfl) ?_))) | ((with_reducible refine Se.isL (o := ⟨some 46, _, _, _, _, _⟩) ?_); (refine Se.toL rfl (Se.ld (o := ⟨some 46, _, _, _, _, _⟩) hs rfl rfl (Cell.blk 4 rfl rfl) (by kernel_rfl) ?_))) | ((first | with_reducible refine Se.ab hs ?_ | with_reducible refine Se.abc hs ?_); clear hs; (first | ((fail_if_success (have _q := g5)); generalize w.heap.size = g5; intro w hs) | (generalize w.heap.size = g8; intro w hs))) | (go_at_call 49; refine Calls.mono (rLearn_st' hs (by simp only [List.mem_cons, HM.out, or_true]) HP.out i gr ⟨ty, code, more, never⟩ HQ.out) ?_; clear hs; rintro e w ⟨A', c', rfl, hs⟩) | (go_at_call 10; refine Calls.mono (rdecide_st' hs ⟨ty, code, more, never⟩ HS.out HD.out) ?_; clear hs; rintro e w ⟨rfl, hs⟩))
                obtain ⟨g', off', rfl⟩ := rd_some hs (List.mem_cons_of_mem _ List.mem_cons_self) HOQ.out
                have C57 := Lib.hid (HON.out _ _ g' off' rfl (List.mem_cons_of_mem (a := At.rd (some ⟨g', off', none⟩) (cells q.l)) (.blk g14 59 (rvl q (some ⟨g', off', none⟩) c')) (List.mem_cons_self (l := .blk g10 59 [.int .i64 0, .slice none 0 0] :: .blk g8 23 [.int .u8 ty, .int .u8 code, .bool more, .bool never] :: .blk g5 59 (rvl p (some ⟨g, off, none⟩) c) :: L))))
                go_wp2_with (first | ((with_reducible refine Se.isL (o := ⟨some 53, _, _, _, _, _⟩) ?_); (refine Se.toL rfl (Se.ld (o := ⟨some 53, _, _, _, _, _⟩) hs rfl rfl (Cell.blk 0 rfl rfl) (by kernel_rfl) ?_))) | ((with_reducible refine Se.isL (o := ⟨some 57, _, _, _, _, _⟩) ?_); (refine Se.toL rfl (Se.ld (o := ⟨some 57, _, _, _, _, _⟩) hs rfl rfl (C57.out) (by kernel_rfl) ?_))) | ((with_reducible refine Se.isL (o := ⟨some 62, _, _, _, _, _⟩) ?_); (refine Se.toL rfl (Se.ldw (o := ⟨some 62, _, _, _, _, _⟩) hs rfl rfl ((Reads.blk 0 rfl)) ((by kernel_rfl)) (by kernel_rfl) ?_))) | ((with_reducible refine Se.isL (o := ⟨some 70, _, _, _, _, _⟩) ?_); (refine Se.toL rfl (Se.ldw (o := ⟨some 70, _, _, _, _, _⟩) hs rfl rfl ((Reads.blk 0 rfl)) ((by kernel_rfl)) (by kernel_rfl) ?_))) | ((with_reducible refine Se.isL (o := ⟨none, Op.store 59 _ _, _, _, _, _⟩) ?_); (refine Se.toL rfl (Se.sow 2 hs rfl rfl rfl rfl ((by simp [Value.oneCell'])) ((by kernel_rfl)) (rfl) ?_); clear hs; intro w hs; try simp only [List.set_cons_zero, List.set_cons_succ] at hs)) | (go_at_call 51; refine Calls.mono (rPick_st' hs (List.mem_cons_of_mem _ List.mem_cons_self) HOQ.out gr HPK.out) ?_; clear hs; rintro e w ⟨rfl, hs⟩))
                refine Se.ret hs [rv _ _ _, .int .i64 n, .int .i64 3, .int .i64 0] rfl ⟨Se.resRow rfl (Reads.blk 2 rfl) (by kernel_rfl) (by kernel_rfl), rfl, rfl, rfl, trivial⟩ (by simp) rfl ?_
                rw [hf.out]
                exact ⟨_, _, rfl, hs.drop.u31.drop.drop.drop⟩
            · have HPK := Lib.hid hpk
              rw [hpk] at hrt
              simp at hrt
              have hf := Lib.hid hrt
              clear hrt hpk
              rcases hdb' with ⟨rfl, rfl⟩ | rfl
              all_goals
                go_enter Try.func50, Try.ntmps50
                go_upto_region 11 with (first | ((with_reducible refine Se.isL (o := ⟨some 10, _, _, _, _, _⟩) ?_); (refine Se.toL rfl (Se.al (o := ⟨some 10, _, _, _, _, _⟩) hs rfl (rfl) ?_); clear hs; rintro w g10 - hs)) | ((with_reducible refine Se.isL (o := ⟨some 23, _, _, _, _, _⟩) ?_); (refine Se.toL rfl (Se.ldw (o := ⟨some 23, _, _, _, _, _⟩) hs rfl rfl ((Reads.blk 2 rfl)) ((by kernel_rfl)) (by kernel_rfl) ?_))) | ((with_reducible refine Se.isL (o := ⟨some 26, _, _, _, _, _⟩) ?_); (refine Se.toL rfl (Se.ldw (o := ⟨some 26, _, _, _, _, _⟩) hs rfl rfl ((Reads.blk 1 rfl)) ((by kernel_rfl)) (by kernel_rfl) ?_))) | ((with_reducible refine Se.isL (o := ⟨some 14, _, _, _, _, _⟩) ?_); (refine Se.toL rfl (Se.al (o := ⟨some 14, _, _, _, _, _⟩) hs rfl (rfl) ?_); clear hs; rintro w g14 - hs)) | ((with_reducible refine Se.isL (o := ⟨none, Op.store 59 _ _, _, _, _, _⟩) ?_); (refine Se.toL rfl (Se.sow 0 hs rfl rfl rfl rfl ((by simp [Value.oneCell'])) ((by kernel_rfl)) (rfl) ?_); clear hs; intro w hs; try simp only [List.set_cons_zero] at hs)) | ((with_reducible refine Se.isL (o := ⟨some 34, _, _, _, _, _⟩) ?_); (refine Se.toL rfl (Se.ldw (o := ⟨some 34, _, _, _, _, _⟩) hs rfl rfl ((Reads.blk 3 rfl)) ((by kernel_rfl)) (by kernel_rfl) ?_))) | ((with_reducible refine Se.isL (o := ⟨some 46, _, _, _, _, _⟩) ?_); (refine Se.toL rfl (Se.ld (o := ⟨some 46, _, _, _, _, _⟩) hs rfl rfl (Cell.blk 4 rfl rfl) (by kernel_rfl) ?_))) | ((first | with_reducible refine Se.ab hs ?_ | with_reducible refine Se.abc hs ?_); clear hs; (first | ((fail_if_success (have _q := g5)); generalize w.heap.size = g5; intro w hs) | (generalize w.heap.size = g8; intro w hs))) | (go_at_call 49; refine Calls.mono (rLearn_st' hs (by simp only [List.mem_cons, HM.out, or_true]) HP.out i gr ⟨ty, code, more, never⟩ HQ.out) ?_; clear hs; rintro e w ⟨A', c', rfl, hs⟩) | (go_at_call 10; refine Calls.mono (rdecide_st' hs ⟨ty, code, more, never⟩ HS.out HD.out) ?_; clear hs; rintro e w ⟨rfl, hs⟩))
                obtain ⟨g', off', rfl⟩ := rd_some hs (List.mem_cons_of_mem _ List.mem_cons_self) HOQ.out
                have C57 := Lib.hid (HON.out _ _ g' off' rfl (List.mem_cons_of_mem (a := At.rd (some ⟨g', off', none⟩) (cells q.l)) (.blk g14 59 (rvl q (some ⟨g', off', none⟩) c')) (List.mem_cons_self (l := .blk g10 59 [.int .i64 0, .slice none 0 0] :: .blk g8 23 [.int .u8 ty, .int .u8 code, .bool more, .bool never] :: .blk g5 59 (rvl p (some ⟨g, off, none⟩) c) :: L))))
                go_wp2_with (first | ((with_reducible refine Se.isL (o := ⟨some 53, _, _, _, _, _⟩) ?_); (refine Se.toL rfl (Se.ld (o := ⟨some 53, _, _, _, _, _⟩) hs rfl rfl (Cell.blk 0 rfl rfl) (by kernel_rfl) ?_))) | ((with_reducible refine Se.isL (o := ⟨some 57, _, _, _, _, _⟩) ?_); (refine Se.toL rfl (Se.ld (o := ⟨some 57, _, _, _, _, _⟩) hs rfl rfl (C57.out) (by kernel_rfl) ?_))) | ((with_reducible refine Se.isL (o := ⟨some 62, _, _, _, _, _⟩) ?_); (refine Se.toL rfl (Se.ldw (o := ⟨some 62, _, _, _, _, _⟩) hs rfl rfl ((Reads.blk 0 rfl)) ((by kernel_rfl)) (by kernel_rfl) ?_))) | ((with_reducible refine Se.isL (o := ⟨some 75, _, _, _, _, _⟩) ?_); (refine Se.toL rfl (Se.ldw (o := ⟨some 75, _, _, _, _, _⟩) hs rfl rfl ((Reads.blk 0 rfl)) ((by kernel_rfl)) (by kernel_rfl) ?_))) | ((with_reducible refine Se.isL (o := ⟨none, Op.store 59 _ _, _, _, _, _⟩) ?_); (refine Se.toL rfl (Se.sow 2 hs rfl rfl rfl rfl ((by simp [Value.oneCell'])) ((by kernel_rfl)) (rfl) ?_); clear hs; intro w hs; try simp only [List.set_cons_zero, List.set_cons_succ] at hs)) | (go_at_call 51; refine Calls.mono (rPick_st' hs (List.mem_cons_of_mem _ List.mem_cons_self) HOQ.out gr HPK.out) ?_; clear hs; rintro e w ⟨rfl, hs⟩))
                refine Se.ret hs [rv _ _ _, .int .i64 0, .int .i64 4, .int .i64 0] rfl ⟨Se.resRow rfl (Reads.blk 2 rfl) (by kernel_rfl) (by kernel_rfl), rfl, rfl, rfl, trivial⟩ (by simp) rfl ?_
                rw [hf.out]
                exact ⟨_, _, rfl, hs.drop.u31.drop.drop.drop⟩
            · have HPK := Lib.hid hpk
              rw [hpk] at hrt
              simp at hrt
              have hf := Lib.hid hrt
              clear hrt hpk
              rcases hdb' with ⟨rfl, rfl⟩ | rfl
              all_goals
                go_enter Try.func50, Try.ntmps50
                go_upto_region 11 with (first | ((with_reducible refine Se.isL (o := ⟨some 10, _, _, _, _, _⟩) ?_); (refine Se.toL rfl (Se.al (o := ⟨some 10, _, _, _, _, _⟩) hs rfl (rfl) ?_); clear hs; rintro w g10 - hs)) | ((with_reducible refine Se.isL (o := ⟨some 23, _, _, _, _, _⟩) ?_); (refine Se.toL rfl (Se.ldw (o := ⟨some 23, _, _, _, _, _⟩) hs rfl rfl ((Reads.blk 2 rfl)) ((by kernel_rfl)) (by kernel_rfl) ?_))) | ((with_reducible refine Se.isL (o := ⟨some 26, _, _, _, _, _⟩) ?_); (refine Se.toL rfl (Se.ldw (o := ⟨some 26, _, _, _, _, _⟩) hs rfl rfl ((Reads.blk 1 rfl)) ((by kernel_rfl)) (by kernel_rfl) ?_))) | ((with_reducible refine Se.isL (o := ⟨some 14, _, _, _, _, _⟩) ?_); (refine Se.toL rfl (Se.al (o := ⟨some 14, _, _, _, _, _⟩) hs rfl (rfl) ?_); clear hs; rintro w g14 - hs)) | ((with_reducible refine Se.isL (o := ⟨none, Op.store 59 _ _, _, _, _, _⟩) ?_); (refine Se.toL rfl (Se.sow 0 hs rfl rfl rfl rfl ((by simp [Value.oneCell'])) ((by kernel_rfl)) (rfl) ?_); clear hs; intro w hs; try simp only [List.set_cons_zero] at hs)) | ((with_reducible refine Se.isL (o := ⟨some 34, _, _, _, _, _⟩) ?_); (refine Se.toL rfl (Se.ldw (o := ⟨some 34, _, _, _, _, _⟩) hs rfl rfl ((Reads.blk 3 rfl)) ((by kernel_rfl)) (by kernel_rfl) ?_))) | ((with_reducible refine Se.isL (o := ⟨some 46, _, _, _, _, _⟩) ?_); (refine Se.toL rfl (Se.ld (o := ⟨some 46, _, _, _, _, _⟩) hs rfl rfl (Cell.blk 4 rfl rfl) (by kernel_rfl) ?_))) | ((first | with_reducible refine Se.ab hs ?_ | with_reducible refine Se.abc hs ?_); clear hs; (first | ((fail_if_success (have _q := g5)); generalize w.heap.size = g5; intro w hs) | (generalize w.heap.size = g8; intro w hs))) | (go_at_call 49; refine Calls.mono (rLearn_st' hs (by simp only [List.mem_cons, HM.out, or_true]) HP.out i gr ⟨ty, code, more, never⟩ HQ.out) ?_; clear hs; rintro e w ⟨A', c', rfl, hs⟩) | (go_at_call 10; refine Calls.mono (rdecide_st' hs ⟨ty, code, more, never⟩ HS.out HD.out) ?_; clear hs; rintro e w ⟨rfl, hs⟩))
                obtain ⟨g', off', rfl⟩ := rd_some hs (List.mem_cons_of_mem _ List.mem_cons_self) HOQ.out
                have C57 := Lib.hid (HON.out _ _ g' off' rfl (List.mem_cons_of_mem (a := At.rd (some ⟨g', off', none⟩) (cells q.l)) (.blk g14 59 (rvl q (some ⟨g', off', none⟩) c')) (List.mem_cons_self (l := .blk g10 59 [.int .i64 0, .slice none 0 0] :: .blk g8 23 [.int .u8 ty, .int .u8 code, .bool more, .bool never] :: .blk g5 59 (rvl p (some ⟨g, off, none⟩) c) :: L))))
                go_wp2_with (first | ((with_reducible refine Se.isL (o := ⟨some 53, _, _, _, _, _⟩) ?_); (refine Se.toL rfl (Se.ld (o := ⟨some 53, _, _, _, _, _⟩) hs rfl rfl (Cell.blk 0 rfl rfl) (by kernel_rfl) ?_))) | ((with_reducible refine Se.isL (o := ⟨some 57, _, _, _, _, _⟩) ?_); (refine Se.toL rfl (Se.ld (o := ⟨some 57, _, _, _, _, _⟩) hs rfl rfl (C57.out) (by kernel_rfl) ?_))) | ((with_reducible refine Se.isL (o := ⟨some 62, _, _, _, _, _⟩) ?_); (refine Se.toL rfl (Se.ldw (o := ⟨some 62, _, _, _, _, _⟩) hs rfl rfl ((Reads.blk 0 rfl)) ((by kernel_rfl)) (by kernel_rfl) ?_))) | ((with_reducible refine Se.isL (o := ⟨some 74, _, _, _, _, _⟩) ?_); (refine Se.toL rfl (Se.ldw (o := ⟨some 74, _, _, _, _, _⟩) hs rfl rfl ((Reads.blk 0 rfl)) ((by kernel_rfl)) (by kernel_rfl) ?_))) | ((with_reducible refine Se.isL (o := ⟨none, Op.store 59 _ _, _, _, _, _⟩) ?_); (refine Se.toL rfl (Se.sow 2 hs rfl rfl rfl rfl ((by simp [Value.oneCell'])) ((by kernel_rfl)) (rfl) ?_); clear hs; intro w hs; try simp only [List.set_cons_zero, List.set_cons_succ] at hs)) | (go_at_call 51; refine Calls.mono (rPick_st' hs (List.mem_cons_of_mem _ List.mem_cons_self) HOQ.out gr HPK.out) ?_; clear hs; rintro e w ⟨rfl, hs⟩))
                refine Se.ret hs [rv _ _ _, .int .i64 0, .int .i64 5, .int .i64 0] rfl ⟨Se.resRow rfl (Reads.blk 2 rfl) (by kernel_rfl) (by kernel_rfl), rfl, rfl, rfl, trivial⟩ (by simp) rfl ?_
                rw [hf.out]
                exact ⟨_, _, rfl, hs.drop.u31.drop.drop.drop⟩
    · have hf := Lib.hid (hrt.trans (if_pos (by simpa using hz)))
      have hz' : (y != 0) = true := by simpa using hz
      clear hp hq hy hd hrt hz ht ht0
      go_enter Try.func50, Try.ntmps50
      go_wp2_with (first | ((with_reducible refine Se.isL (o := ⟨some 10, _, _, _, _, _⟩) ?_); (refine Se.toL rfl (Se.al (o := ⟨some 10, _, _, _, _, _⟩) hs rfl (rfl) ?_); clear hs; rintro w g10 - hs)) | ((with_reducible refine Se.isL (o := ⟨some 23, _, _, _, _, _⟩) ?_); (refine Se.toL rfl (Se.ldw (o := ⟨some 23, _, _, _, _, _⟩) hs rfl rfl ((Reads.blk 2 rfl)) ((by kernel_rfl)) (by kernel_rfl) ?_))) | ((with_reducible refine Se.isL (o := ⟨some 26, _, _, _, _, _⟩) ?_); (refine Se.toL rfl (Se.ldw (o := ⟨some 26, _, _, _, _, _⟩) hs rfl rfl ((Reads.blk 1 rfl)) ((by kernel_rfl)) (by kernel_rfl) ?_))) | ((with_reducible refine Se.isL (o := ⟨some 14, _, _, _, _, _⟩) ?_); (refine Se.toL rfl (Se.al (o := ⟨some 14, _, _, _, _, _⟩) hs rfl (rfl) ?_); clear hs; rintro w g14 - hs)) | ((with_reducible refine Se.isL (o := ⟨none, Op.store 59 _ _, _, _, _, _⟩) ?_); (refine Se.toL rfl (Se.sow 0 hs rfl rfl rfl rfl ((by simp [Value.oneCell'])) ((by kernel_rfl)) (rfl) ?_); clear hs; intro w hs; try simp only [List.set_cons_zero] at hs)) | ((with_reducible refine Se.isL (o := ⟨some 32, _, _, _, _, _⟩) ?_); (refine Se.toL rfl (Se.ldw (o := ⟨some 32, _, _, _, _, _⟩) hs rfl rfl ((Reads.blk 4 rfl)) ((by kernel_rfl)) (by kernel_rfl) ?_))) | ((with_reducible refine Se.isL (o := ⟨none, Op.store 59 _ _, _, _, _, _⟩) ?_); (refine Se.toL rfl (Se.sow 2 hs rfl rfl rfl rfl ((by simp [Value.oneCell'])) ((by kernel_rfl)) (rfl) ?_); clear hs; intro w hs; try simp only [List.set_cons_zero, List.set_cons_succ] at hs)) | ((first | with_reducible refine Se.ab hs ?_ | with_reducible refine Se.abc hs ?_); clear hs; (first | ((fail_if_success (have _q := g5)); generalize w.heap.size = g5; intro w hs) | (generalize w.heap.size = g8; intro w hs))) | (go_at_call 49; refine Calls.mono (rLearn_st' hs (by simp only [List.mem_cons, HM.out, or_true]) HP.out i gr ⟨ty, code, more, never⟩ HQ.out) ?_; clear hs; rintro e w ⟨A', c', rfl, hs⟩))
      refine Se.ret hs [rv _ _ _, .int .i64 0, .int .i64 0, .int .i64 y] rfl ⟨Se.resRow rfl (Reads.blk 2 rfl) (by kernel_rfl) (by kernel_rfl), rfl, rfl, rfl, trivial⟩ (by simp) rfl ?_
      rw [hf.out]
      exact ⟨_, _, rfl, hs.drop.drop.drop.drop.drop.dup HM.out⟩
end Pa
end Go.Proofs.Ytplhelhijjmlaaa

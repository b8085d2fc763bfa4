/- Layer 45: the program's Route. Printed by wip/gen_route.py. -/
import Derived.Test.YtplhelhijjmlaaaPathPick2
set_option linter.unusedSimpArgs false
set_option linter.unusedVariables false
namespace Go.Proofs.Ytplhelhijjmlaaa
open Go Go.RowKit
namespace Pa
open Se (St At Reads Cell)
variable {w0 w : World} {X : List Nat} {L : List At} {D g off c : Nat} {p : PP}
theorem learn_st' (hs : St w0 X (pD D (some ⟨g, off, none⟩) c p :: pG g off c p :: L) w) (hp : OkP p) (i gr : Int) (s : Sta) {q : PP} {y : Int} (hq : learn p i gr s = (q, y)) :
    Calls Try.prog 30 #[.pointer (some ⟨D, 0, none⟩), .int .i64 i, .int .i64 gr, stv s] w fun e w' => e = .returned (.int .i64 y) ∧ St w0 X (pD D (some ⟨g, off, none⟩) c q :: pG g off c q :: L) w' := by
  have := learn_st hs hp i gr s
  rwa [hq] at this
theorem decide_st' (hs : St w0 X L w) (s : Sta) {d : Int} (hd : decide' s = d) :
    Calls Try.prog 9 #[stv s] w fun e w' => e = .returned (.int .i64 d) ∧ St w0 X L w' := hd ▸ decide_st hs s
theorem pick_st' (hs : St w0 X (pD D (some ⟨g, off, none⟩) c p :: pG g off c p :: L) w) (hp : OkP p) (gr : Int) {n y : Int} (hq : pick p gr = (n, y)) :
    Calls Try.prog 21 #[.pointer (some ⟨D, 0, none⟩), .int .i64 gr] w fun e w' => e = .returned (.tuple #[.int .i64 n, .int .i64 y]) ∧ St w0 X (pD D (some ⟨g, off, none⟩) c p :: pG g off c p :: L) w' := by
  have := pick_st hs hp gr
  rwa [hq] at this
theorem c_on' (hp : OkP p) {i : Int} (hi : rng p i = 0) {k : Nat} (h : L[k]? = some (.own 131 (some g) (some ⟨g, off, none⟩) p.l.length c (cells p.l))) {b : Bool} (hb : (get p i).on = b) : Cell L g (off + i.toNat * 131) (.bool b) := hb ▸ c_on hp hi h
theorem all_two (x b : Bool) : (!decide (false ∈ [x, b])) = (x && b) := by cases x <;> cases b <;> rfl
set_option maxRecDepth 100000 in
set_option maxHeartbeats 8000000 in
theorem route_st (hs : St w0 X (pD D (some ⟨g, off, none⟩) c p :: pG g off c p :: L) w) (hp : OkP p) (i gr : Int) (s : Sta) (tr : Int) :
    Calls Try.prog 24 #[.pointer (some ⟨D, 0, none⟩), .int .i64 i, .int .i64 gr, stv s, .int .i64 tr] w fun e w' => e = .returned (.tuple #[.int .i64 (route p i gr s tr).2.1, .int .i64 (route p i gr s tr).2.2.1, .int .i64 (route p i gr s tr).2.2.2]) ∧ St w0 X (pD D (some ⟨g, off, none⟩) c (route p i gr s tr).1 :: pG g off c (route p i gr s tr).1 :: L) w' := by
  have HP := Lib.hid hp
  obtain ⟨ty, code, more, never⟩ := s
  obtain ⟨V, hV⟩ : ∃ V, V = (grp gr && decide (0 ≤ tr)) := ⟨_, rfl⟩
  by_cases ht : 0 ≤ tr
  · have hA : (!decide (false ∈ [grp gr, true])) = V := by rw [all_two, hV]; simp [ht]
    have HA := Lib.hid hA
    have hVg : V = grp gr := by rw [hV]; simp [ht]
    obtain ⟨y, hy⟩ : ∃ y, at' p i V = y := ⟨_, rfl⟩
    have HY := Lib.hid hy
    by_cases hz : y = 0
    · subst hz
      obtain ⟨q, hq⟩ : ∃ q, q = (learn p i gr ⟨ty, code, more, never⟩).1 := ⟨_, rfl⟩
      have HQ := Lib.hid (show learn p i gr ⟨ty, code, more, never⟩ = (q, 0) by rw [hq, ← hy, hVg, ← learn_err p i gr ⟨ty, code, more, never⟩])
      obtain ⟨d, hd⟩ : ∃ d, decide' ⟨ty, code, more, never⟩ = d := ⟨_, rfl⟩
      have HD := Lib.hid hd
      obtain ⟨hvt, hri⟩ := at_ok hy
      have HGG := Lib.hid (show grp gr = true by rw [← hVg, hvt])
      have HOQ := Lib.hid (show OkP q by rw [hq]; exact learn_ok hp i gr _)
      have hql : q.l.length = p.l.length := by rw [hq]; exact learn_len p i gr _
      have hqt : q.tries = p.tries := by rw [hq]; exact learn_tries p i gr _
      have HRQ := Lib.hid (show rng q i = 0 by unfold rng at hri ⊢; rw [hql]; exact hri)
      have hrt : route p i gr ⟨ty, code, more, never⟩ tr = 
          if d = 1 ∨ d = 4 then (q, 0, d, 0) else
          if q.tries ≤ tr then (q, 0, 4, 0) else
          if d = 2 ∧ (get q i).on = true then (q, i, 2, 0) else
          if (pick q gr).2 = 0 then (q, (pick q gr).1, 3, 0) else if (pick q gr).2 = 11 then (q, 0, 5, 0) else (q, 0, 4, 0) := by
        unfold route; rw [← hV, hy, ← hq, hd, hqt, if_neg (by simp)]
      have hdc : d = 1 ∨ d = 2 ∨ d = 3 ∨ d = 4 := by rw [← hd]; exact dec_cases _
      clear hp hq hy hd hri hql hqt hV hA hVg hvt
      by_cases hd14 : d = 1 ∨ d = 4
      · rw [if_pos hd14] at hrt
        have hf := Lib.hid hrt
        clear hrt hdc
        rcases hd14 with rfl | rfl
        all_goals
          go_enter Try.func24, Try.ntmps24
          go_wp2_with (first | ((with_reducible refine Se.isL (o := ⟨some 24, _, _, _, _, _⟩) ?_); (refine Se.toL rfl (Se.bsv (o := ⟨some 24, _, _, _, _, _⟩) hs rfl Try.underlying112 bool_info rfl ([.bool (grp gr), .bool true]) (by rfl) (by rfl) (by decide) (by decide) (by simp [Value.oneCell']) ?_); clear hs; rintro w g24 - hs)) | ((with_reducible refine Se.isL (o := ⟨some 35, _, _, _, _, _⟩) ?_); (refine Se.toL rfl (Se.ldw (o := ⟨some 35, _, _, _, _, _⟩) hs rfl rfl ((Reads.blk 3 rfl)) ((by kernel_rfl)) (by kernel_rfl) ?_))) | ((with_reducible refine Se.isL (o := ⟨some 37, _, _, _, _, _⟩) ?_); (refine Se.toL rfl (Se.ldw (o := ⟨some 37, _, _, _, _, _⟩) hs rfl rfl ((Reads.blk 3 rfl)) ((by kernel_rfl)) (by kernel_rfl) ?_))) | ((first | with_reducible refine Se.ab hs ?_ | with_reducible refine Se.abc hs ?_); clear hs; (first | (generalize w.heap.size = g8; intro w hs))) | (go_at_call 36; refine Calls.mono (group_st hs gr) ?_; clear hs; rintro e w ⟨rfl, hs⟩) | (go_at_call 32; refine Calls.mono (all_v hs [grp gr, true] V (Reads.blk 0 rfl) rfl (by decide) HA.out) ?_; clear hs; rintro e w ⟨rfl, hs⟩) | (go_at_call 34; refine Calls.mono (at_ok_st hs.u22 HP.out i _ HY.out) ?_; clear hs; rintro e w ⟨rfl, hs⟩) | (go_at_call 30; refine Calls.mono (learn_st' hs HP.out i gr ⟨ty, code, more, never⟩ HQ.out) ?_; clear hs; rintro e w ⟨rfl, hs⟩) | (go_at_call 9; refine Calls.mono (decide_st' hs ⟨ty, code, more, never⟩ HD.out) ?_; clear hs; rintro e w ⟨rfl, hs⟩))
          go_ret3
          rw [hf.out]
          exact ⟨rfl, hs.u22.drop.drop⟩
      · rw [if_neg hd14] at hrt
        have hd23 : d = 2 ∨ d = 3 := by omega
        clear hdc hd14
        by_cases htt : q.tries ≤ tr
        · rw [if_pos htt] at hrt
          have hf := Lib.hid hrt
          clear hrt
          rcases hd23 with rfl | rfl
          all_goals
            go_enter Try.func24, Try.ntmps24
            go_wp2_with (first | ((with_reducible refine Se.isL (o := ⟨some 24, _, _, _, _, _⟩) ?_); (refine Se.toL rfl (Se.bsv (o := ⟨some 24, _, _, _, _, _⟩) hs rfl Try.underlying112 bool_info rfl ([.bool (grp gr), .bool true]) (by rfl) (by rfl) (by decide) (by decide) (by simp [Value.oneCell']) ?_); clear hs; rintro w g24 - hs)) | ((with_reducible refine Se.isL (o := ⟨some 35, _, _, _, _, _⟩) ?_); (refine Se.toL rfl (Se.ldw (o := ⟨some 35, _, _, _, _, _⟩) hs rfl rfl ((Reads.blk 3 rfl)) ((by kernel_rfl)) (by kernel_rfl) ?_))) | ((with_reducible refine Se.isL (o := ⟨some 37, _, _, _, _, _⟩) ?_); (refine Se.toL rfl (Se.ldw (o := ⟨some 37, _, _, _, _, _⟩) hs rfl rfl ((Reads.blk 3 rfl)) ((by kernel_rfl)) (by kernel_rfl) ?_))) | ((with_reducible refine Se.isL (o := ⟨some 52, _, _, _, _, _⟩) ?_); (refine Se.toL rfl (Se.ld (o := ⟨some 52, _, _, _, _, _⟩) hs rfl rfl (Cell.blk 0 rfl rfl) (by kernel_rfl) ?_))) | ((first | with_reducible refine Se.ab hs ?_ | with_reducible refine Se.abc hs ?_); clear hs; (first | (generalize w.heap.size = g8; intro w hs))) | (go_at_call 36; refine Calls.mono (group_st hs gr) ?_; clear hs; rintro e w ⟨rfl, hs⟩) | (go_at_call 32; refine Calls.mono (all_v hs [grp gr, true] V (Reads.blk 0 rfl) rfl (by decide) HA.out) ?_; clear hs; rintro e w ⟨rfl, hs⟩) | (go_at_call 34; refine Calls.mono (at_ok_st hs.u22 HP.out i _ HY.out) ?_; clear hs; rintro e w ⟨rfl, hs⟩) | (go_at_call 30; refine Calls.mono (learn_st' hs HP.out i gr ⟨ty, code, more, never⟩ HQ.out) ?_; clear hs; rintro e w ⟨rfl, hs⟩) | (go_at_call 9; refine Calls.mono (decide_st' hs ⟨ty, code, more, never⟩ HD.out) ?_; clear hs; rintro e w ⟨rfl, hs⟩))
            go_ret3
            rw [hf.out]
            exact ⟨rfl, hs.u22.drop.drop⟩
        · rw [if_neg htt] at hrt
          have htt' : tr < q.tries := by omega
          clear htt
          obtain ⟨b, hb⟩ : ∃ b, (get q i).on = b := ⟨_, rfl⟩
          rw [hb] at hrt
          have HON := Lib.hid hb
          clear hb
          by_cases hdb : d = 2 ∧ b = true
          · rw [if_pos hdb] at hrt
            have hf := Lib.hid hrt
            obtain ⟨rfl, rfl⟩ := hdb
            clear hrt hd23
            go_enter Try.func24, Try.ntmps24
            go_wp2_with (first | ((with_reducible refine Se.isL (o := ⟨some 24, _, _, _, _, _⟩) ?_); (refine Se.toL rfl (Se.bsv (o := ⟨some 24, _, _, _, _, _⟩) hs rfl Try.underlying112 bool_info rfl ([.bool (grp gr), .bool true]) (by rfl) (by rfl) (by decide) (by decide) (by simp [Value.oneCell']) ?_); clear hs; rintro w g24 - hs)) | ((with_reducible refine Se.isL (o := ⟨some 35, _, _, _, _, _⟩) ?_); (refine Se.toL rfl (Se.ldw (o := ⟨some 35, _, _, _, _, _⟩) hs rfl rfl ((Reads.blk 3 rfl)) ((by kernel_rfl)) (by kernel_rfl) ?_))) | ((with_reducible refine Se.isL (o := ⟨some 37, _, _, _, _, _⟩) ?_); (refine Se.toL rfl (Se.ldw (o := ⟨some 37, _, _, _, _, _⟩) hs rfl rfl ((Reads.blk 3 rfl)) ((by kernel_rfl)) (by kernel_rfl) ?_))) | ((with_reducible refine Se.isL (o := ⟨some 52, _, _, _, _, _⟩) ?_); (refine Se.toL rfl (Se.ld (o := ⟨some 52, _, _, _, _, _⟩) hs rfl rfl (Cell.blk 0 rfl rfl) (by kernel_rfl) ?_))) | ((with_reducible refine Se.isL (o := ⟨some 62, _, _, _, _, _⟩) ?_); (refine Se.toL rfl (Se.ld (o := ⟨some 62, _, _, _, _, _⟩) hs rfl rfl (c_on' (k:=1) HOQ.out HRQ.out rfl HON.out) (by kernel_rfl) ?_))) | ((first | with_reducible refine Se.ab hs ?_ | with_reducible refine Se.abc hs ?_); clear hs; (first | (generalize w.heap.size = g8; intro w hs))) | (go_at_call 36; refine Calls.mono (group_st hs gr) ?_; clear hs; rintro e w ⟨rfl, hs⟩) | (go_at_call 32; refine Calls.mono (all_v hs [grp gr, true] V (Reads.blk 0 rfl) rfl (by decide) HA.out) ?_; clear hs; rintro e w ⟨rfl, hs⟩) | (go_at_call 34; refine Calls.mono (at_ok_st hs.u22 HP.out i _ HY.out) ?_; clear hs; rintro e w ⟨rfl, hs⟩) | (go_at_call 30; refine Calls.mono (learn_st' hs HP.out i gr ⟨ty, code, more, never⟩ HQ.out) ?_; clear hs; rintro e w ⟨rfl, hs⟩) | (go_at_call 9; refine Calls.mono (decide_st' hs ⟨ty, code, more, never⟩ HD.out) ?_; clear hs; rintro e w ⟨rfl, hs⟩))
            go_ret3
            rw [hf.out]
            exact ⟨rfl, hs.u22.drop.drop⟩
          · rw [if_neg hdb] at hrt
            obtain ⟨n, hpk⟩ := pick_cases q HGG.out
            have hdb' : (d = 2 ∧ b = false) ∨ d = 3 := by
              rcases hd23 with rfl | rfl
              · left; exact ⟨rfl, by cases b <;> simp_all⟩
              · exact .inr rfl
            clear hdb hd23
            rcases hpk with hpk | hpk | hpk
            · have HPK := Lib.hid hpk
              rw [hpk] at hrt
              simp at hrt
              have hf := Lib.hid hrt
              clear hrt hpk
              rcases hdb' with ⟨rfl, rfl⟩ | rfl
              all_goals
                go_enter Try.func24, Try.ntmps24
                go_wp2_with (first | ((with_reducible refine Se.isL (o := ⟨some 24, _, _, _, _, _⟩) ?_); (refine Se.toL rfl (Se.bsv (o := ⟨some 24, _, _, _, _, _⟩) hs rfl Try.underlying112 bool_info rfl ([.bool (grp gr), .bool true]) (by rfl) (by rfl) (by decide) (by decide) (by simp [Value.oneCell']) ?_); clear hs; rintro w g24 - hs)) | ((with_reducible refine Se.isL (o := ⟨some 35, _, _, _, _, _⟩) ?_); (refine Se.toL rfl (Se.ldw (o := ⟨some 35, _, _, _, _, _⟩) hs rfl rfl ((Reads.blk 3 rfl)) ((by kernel_rfl)) (by kernel_rfl) ?_))) | ((with_reducible refine Se.isL (o := ⟨some 37, _, _, _, _, _⟩) ?_); (refine Se.toL rfl (Se.ldw (o := ⟨some 37, _, _, _, _, _⟩) hs rfl rfl ((Reads.blk 3 rfl)) ((by kernel_rfl)) (by kernel_rfl) ?_))) | ((with_reducible refine Se.isL (o := ⟨some 52, _, _, _, _, _⟩) ?_); (refine Se.toL rfl (Se.ld (o := ⟨some 52, _, _, _, _, _⟩) hs rfl rfl (Cell.blk 0 rfl rfl) (by kernel_rfl) ?_))) | ((with_reducible refine Se.isL (o := ⟨some 62, _, _, _, _, _⟩) ?_); (refine Se.toL rfl (Se.ld (o := ⟨some 62, _, _, _, _, _⟩) hs rfl rfl (c_on' (k:=1) HOQ.out HRQ.out rfl HON.out) (by kernel_rfl) ?_))) | ((first | with_reducible refine Se.ab hs ?_ | with_reducible refine Se.abc hs ?_); clear hs; (first | (generalize w.heap.size = g8; intro w hs))) | (go_at_call 36; refine Calls.mono (group_st hs gr) ?_; clear hs; rintro e w ⟨rfl, hs⟩) | (go_at_call 32; refine Calls.mono (all_v hs [grp gr, true] V (Reads.blk 0 rfl) rfl (by decide) HA.out) ?_; clear hs; rintro e w ⟨rfl, hs⟩) | (go_at_call 34; refine Calls.mono (at_ok_st hs.u22 HP.out i _ HY.out) ?_; clear hs; rintro e w ⟨rfl, hs⟩) | (go_at_call 30; refine Calls.mono (learn_st' hs HP.out i gr ⟨ty, code, more, never⟩ HQ.out) ?_; clear hs; rintro e w ⟨rfl, hs⟩) | (go_at_call 9; refine Calls.mono (decide_st' hs ⟨ty, code, more, never⟩ HD.out) ?_; clear hs; rintro e w ⟨rfl, hs⟩) | (go_at_call 21; refine Calls.mono (pick_st' hs HOQ.out gr HPK.out) ?_; clear hs; rintro e w ⟨rfl, hs⟩))
                go_ret3
                rw [hf.out]
                exact ⟨rfl, hs.u22.drop.drop⟩
            · have HPK := Lib.hid hpk
              rw [hpk] at hrt
              simp at hrt
              have hf := Lib.hid hrt
              clear hrt hpk
              rcases hdb' with ⟨rfl, rfl⟩ | rfl
              all_goals
                go_enter Try.func24, Try.ntmps24
                go_wp2_with (first | ((with_reducible refine Se.isL (o := ⟨some 24, _, _, _, _, _⟩) ?_); (refine Se.toL rfl (Se.bsv (o := ⟨some 24, _, _, _, _, _⟩) hs rfl Try.underlying112 bool_info rfl ([.bool (grp gr), .bool true]) (by rfl) (by rfl) (by decide) (by decide) (by simp [Value.oneCell']) ?_); clear hs; rintro w g24 - hs)) | ((with_reducible refine Se.isL (o := ⟨some 35, _, _, _, _, _⟩) ?_); (refine Se.toL rfl (Se.ldw (o := ⟨some 35, _, _, _, _, _⟩) hs rfl rfl ((Reads.blk 3 rfl)) ((by kernel_rfl)) (by kernel_rfl) ?_))) | ((with_reducible refine Se.isL (o := ⟨some 37, _, _, _, _, _⟩) ?_); (refine Se.toL rfl (Se.ldw (o := ⟨some 37, _, _, _, _, _⟩) hs rfl rfl ((Reads.blk 3 rfl)) ((by kernel_rfl)) (by kernel_rfl) ?_))) | ((with_reducible refine Se.isL (o := ⟨some 52, _, _, _, _, _⟩) ?_); (refine Se.toL rfl (Se.ld (o := ⟨some 52, _, _, _, _, _⟩) hs rfl rfl (Cell.blk 0 rfl rfl) (by kernel_rfl) ?_))) | ((with_reducible refine Se.isL (o := ⟨some 62, _, _, _, _, _⟩) ?_); (refine Se.toL rfl (Se.ld (o := ⟨some 62, _, _, _, _, _⟩) hs rfl rfl (c_on' (k:=1) HOQ.out HRQ.out rfl HON.out) (by kernel_rfl) ?_))) | ((first | with_reducible refine Se.ab hs ?_ | with_reducible refine Se.abc hs ?_); clear hs; (first | (generalize w.heap.size = g8; intro w hs))) | (go_at_call 36; refine Calls.mono (group_st hs gr) ?_; clear hs; rintro e w ⟨rfl, hs⟩) | (go_at_call 32; refine Calls.mono (all_v hs [grp gr, true] V (Reads.blk 0 rfl) rfl (by decide) HA.out) ?_; clear hs; rintro e w ⟨rfl, hs⟩) | (go_at_call 34; refine Calls.mono (at_ok_st hs.u22 HP.out i _ HY.out) ?_; clear hs; rintro e w ⟨rfl, hs⟩) | (go_at_call 30; refine Calls.mono (learn_st' hs HP.out i gr ⟨ty, code, more, never⟩ HQ.out) ?_; clear hs; rintro e w ⟨rfl, hs⟩) | (go_at_call 9; refine Calls.mono (decide_st' hs ⟨ty, code, more, never⟩ HD.out) ?_; clear hs; rintro e w ⟨rfl, hs⟩) | (go_at_call 21; refine Calls.mono (pick_st' hs HOQ.out gr HPK.out) ?_; clear hs; rintro e w ⟨rfl, hs⟩))
                go_ret3
                rw [hf.out]
                exact ⟨rfl, hs.u22.drop.drop⟩
            · have HPK := Lib.hid hpk
              rw [hpk] at hrt
              simp at hrt
              have hf := Lib.hid hrt
              clear hrt hpk
              rcases hdb' with ⟨rfl, rfl⟩ | rfl
              all_goals
                go_enter Try.func24, Try.ntmps24
                go_wp2_with (first | ((with_reducible refine Se.isL (o := ⟨some 24, _, _, _, _, _⟩) ?_); (refine Se.toL rfl (Se.bsv (o := ⟨some 24, _, _, _, _, _⟩) hs rfl Try.underlying112 bool_info rfl ([.bool (grp gr), .bool true]) (by rfl) (by rfl) (by decide) (by decide) (by simp [Value.oneCell']) ?_); clear hs; rintro w g24 - hs)) | ((with_reducible refine Se.isL (o := ⟨some 35, _, _, _, _, _⟩) ?_); (refine Se.toL rfl (Se.ldw (o := ⟨some 35, _, _, _, _, _⟩) hs rfl rfl ((Reads.blk 3 rfl)) ((by kernel_rfl)) (by kernel_rfl) ?_))) | ((with_reducible refine Se.isL (o := ⟨some 37, _, _, _, _, _⟩) ?_); (refine Se.toL rfl (Se.ldw (o := ⟨some 37, _, _, _, _, _⟩) hs rfl rfl ((Reads.blk 3 rfl)) ((by kernel_rfl)) (by kernel_rfl) ?_))) | ((with_reducible refine Se.isL (o := ⟨some 52, _, _, _, _, _⟩) ?_); (refine Se.toL rfl (Se.ld (o := ⟨some 52, _, _, _, _, _⟩) hs rfl rfl (Cell.blk 0 rfl rfl) (by kernel_rfl) ?_))) | ((with_reducible refine Se.isL (o := ⟨some 62, _, _, _, _, _⟩) ?_); (refine Se.toL rfl (Se.ld (o := ⟨some 62, _, _, _, _, _⟩) hs rfl rfl (c_on' (k:=1) HOQ.out HRQ.out rfl HON.out) (by kernel_rfl) ?_))) | ((first | with_reducible refine Se.ab hs ?_ | with_reducible refine Se.abc hs ?_); clear hs; (first | (generalize w.heap.size = g8; intro w hs))) | (go_at_call 36; refine Calls.mono (group_st hs gr) ?_; clear hs; rintro e w ⟨rfl, hs⟩) | (go_at_call 32; refine Calls.mono (all_v hs [grp gr, true] V (Reads.blk 0 rfl) rfl (by decide) HA.out) ?_; clear hs; rintro e w ⟨rfl, hs⟩) | (go_at_call 34; refine Calls.mono (at_ok_st hs.u22 HP.out i _ HY.out) ?_; clear hs; rintro e w ⟨rfl, hs⟩) | (go_at_call 30; refine Calls.mono (learn_st' hs HP.out i gr ⟨ty, code, more, never⟩ HQ.out) ?_; clear hs; rintro e w ⟨rfl, hs⟩) | (go_at_call 9; refine Calls.mono (decide_st' hs ⟨ty, code, more, never⟩ HD.out) ?_; clear hs; rintro e w ⟨rfl, hs⟩) | (go_at_call 21; refine Calls.mono (pick_st' hs HOQ.out gr HPK.out) ?_; clear hs; rintro e w ⟨rfl, hs⟩))
                go_ret3
                rw [hf.out]
                exact ⟨rfl, hs.u22.drop.drop⟩
    · have hf := Lib.hid (show route p i gr ⟨ty, code, more, never⟩ tr = (p, 0, 0, y) by unfold route; rw [← hV, hy, if_pos hz])
      have hz' : (y == 0) = false := by simpa using hz
      have hz'' : (!decide (y = 0)) = true := by simpa using hz
      have HZ := Lib.hid hz
      clear hp hy hz hV hA hVg
      go_enter Try.func24, Try.ntmps24
      go_wp2_with (first | ((with_reducible refine Se.isL (o := ⟨some 24, _, _, _, _, _⟩) ?_); (refine Se.toL rfl (Se.bsv (o := ⟨some 24, _, _, _, _, _⟩) hs rfl Try.underlying112 bool_info rfl ([.bool (grp gr), .bool true]) (by rfl) (by rfl) (by decide) (by decide) (by simp [Value.oneCell']) ?_); clear hs; rintro w g24 - hs)) | ((first | with_reducible refine Se.ab hs ?_ | with_reducible refine Se.abc hs ?_); clear hs; (first | (generalize w.heap.size = g8; intro w hs))) | (go_at_call 36; refine Calls.mono (group_st hs gr) ?_; clear hs; rintro e w ⟨rfl, hs⟩) | (go_at_call 32; refine Calls.mono (all_v hs [grp gr, true] V (Reads.blk 0 rfl) rfl (by decide) HA.out) ?_; clear hs; rintro e w ⟨rfl, hs⟩) | (go_at_call 34; refine Calls.mono (at_no_st hs.u22 HP.out i _ _ HY.out HZ.out) ?_; clear hs; rintro e w ⟨rfl, hs⟩))
      go_ret3
      rw [hf.out]
      exact ⟨rfl, hs.u22.drop.drop⟩
  · have hA : (!decide (false ∈ [grp gr, false])) = V := by rw [all_two, hV]; simp [ht]
    have HA := Lib.hid hA
    have hv : V = false := by rw [hV]; simp [ht]
    have HY := Lib.hid (show at' p i V = 2 by rw [hv]; rfl)
    have HZ := Lib.hid (show (2 : Int) ≠ 0 by decide)
    have hf := Lib.hid (show route p i gr ⟨ty, code, more, never⟩ tr = (p, 0, 0, 2) by unfold route; rw [← hV, hv]; rfl)
    have ht' : decide (0 ≤ tr) = false := by simpa using ht
    clear hp hV hA hv ht
    go_enter Try.func24, Try.ntmps24
    go_wp2_with (first | ((with_reducible refine Se.isL (o := ⟨some 24, _, _, _, _, _⟩) ?_); (refine Se.toL rfl (Se.bsv (o := ⟨some 24, _, _, _, _, _⟩) hs rfl Try.underlying112 bool_info rfl ([.bool (grp gr), .bool false]) (by rfl) (by rfl) (by decide) (by decide) (by simp [Value.oneCell']) ?_); clear hs; rintro w g24 - hs)) | ((first | with_reducible refine Se.ab hs ?_ | with_reducible refine Se.abc hs ?_); clear hs; (first | (generalize w.heap.size = g8; intro w hs))) | (go_at_call 36; refine Calls.mono (group_st hs gr) ?_; clear hs; rintro e w ⟨rfl, hs⟩) | (go_at_call 32; refine Calls.mono (all_v hs [grp gr, false] V (Reads.blk 0 rfl) rfl (by decide) HA.out) ?_; clear hs; rintro e w ⟨rfl, hs⟩) | (go_at_call 34; refine Calls.mono (at_no_st hs.u22 HP.out i _ _ HY.out HZ.out) ?_; clear hs; rintro e w ⟨rfl, hs⟩))
    go_ret3
    rw [hf.out]
    exact ⟨rfl, hs.u22.drop.drop⟩
end Pa
end Go.Proofs.Ytplhelhijjmlaaa

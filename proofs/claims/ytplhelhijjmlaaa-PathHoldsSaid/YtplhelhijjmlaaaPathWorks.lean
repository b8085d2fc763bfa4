/- Layer 45: the examples of the chapter, walked. Printed by wip/gen_works.py. -/
import Derived.Test.YtplhelhijjmlaaaPathWorks0
set_option linter.unusedSimpArgs false
set_option linter.unusedVariables false
namespace Go.Proofs.Ytplhelhijjmlaaa
open Go Go.RowKit
namespace Pa
open Se (St At Reads Cell)
variable {w0 w : World} {X : List Nat} {L : List At}
set_option maxRecDepth 100000 in
set_option maxHeartbeats 8000000 in
theorem works_st (hs : St w0 X L w) : Calls Try.prog 11 #[] w fun e w' => e = .returned (.bool true) ∧ St w0 X L w' := by
  obtain ⟨e0, e1, q0, s0, q1, s1, q2, s2, q3, s3, q4, r4, q5, r5, r6, s5, r7, d0, d1⟩ := ex_facts
  obtain ⟨k0, k1, k2, k3, k4, k5, k6⟩ := ex_ok
  generalize P0 = P0 at *
  generalize P1 = P1 at *
  generalize P2 = P2 at *
  generalize P3 = P3 at *
  generalize P4 = P4 at *
  generalize P5 = P5 at *
  generalize P6 = P6 at *
  have E0 := Lib.hid e0
  have E1 := Lib.hid e1
  have Q0 := Lib.hid q0
  have S0 := Lib.hid s0
  have Q1 := Lib.hid q1
  have S1 := Lib.hid s1
  have Q2 := Lib.hid q2
  have S2 := Lib.hid s2
  have Q3 := Lib.hid q3
  have S3 := Lib.hid s3
  have Q4 := Lib.hid q4
  have R4 := Lib.hid r4
  have Q5 := Lib.hid q5
  have R5 := Lib.hid r5
  have R6 := Lib.hid r6
  have S5 := Lib.hid s5
  have R7 := Lib.hid r7
  have D0 := Lib.hid d0
  have D1 := Lib.hid d1
  have K0 := Lib.hid k0
  have K1 := Lib.hid k1
  have K2 := Lib.hid k2
  have K3 := Lib.hid k3
  have K4 := Lib.hid k4
  have K5 := Lib.hid k5
  have K6 := Lib.hid k6
  clear e0 e1 q0 s0 q1 s1 q2 s2 q3 s3 q4 r4 q5 r5 r6 s5 r7 d0 d1 k0 k1 k2 k3 k4 k5 k6
  go_enter Try.func11, Try.ntmps11
  go_upto_region 2 with (first | (go_at_call 12; refine Calls.mono (new_no hs E1.out) ?_; clear hs; rintro e w ⟨rfl, hs⟩))
  go_upto_region 3 with (first | (go_at_call 12; refine Calls.mono (new_yes hs E0.out) ?_; clear hs; rintro e w ⟨D, g, rfl, hs⟩))
  go_upto_region 5 with (first | (go_at_call 13; refine Calls.mono (num_st hs _) ?_; clear hs; rintro e w ⟨rfl, hs⟩) | (go_at_call 16; refine Calls.mono (picks_t hs K0.out 7 Q0.out) ?_; clear hs; rintro e w ⟨rfl, hs⟩) | (go_at_call 14; refine Calls.mono (submit_st' hs K0.out 0 10 S0.out) ?_; clear hs; rintro e w ⟨rfl, hs⟩) | (go_at_call 16; refine Calls.mono (picks_t hs K1.out 7 Q1.out) ?_; clear hs; rintro e w ⟨rfl, hs⟩) | (go_at_call 15; refine Calls.mono (setState_st' hs K1.out 1 7 3 S1.out) ?_; clear hs; rintro e w ⟨rfl, hs⟩) | (go_at_call 16; refine Calls.mono (picks_t hs K2.out 7 Q2.out) ?_; clear hs; rintro e w ⟨rfl, hs⟩) | (go_at_call 15; refine Calls.mono (setState_st' hs K2.out 2 7 2 S2.out) ?_; clear hs; rintro e w ⟨rfl, hs⟩) | (go_at_call 16; refine Calls.mono (picks_t hs K3.out 7 Q3.out) ?_; clear hs; rintro e w ⟨rfl, hs⟩))
  go_upto_region 6 with (first | (go_at_call 20; refine Calls.mono (disconnect_st' hs K3.out 0 S3.out) ?_; clear hs; rintro e w ⟨rfl, hs⟩))
  go_upto_region 8 with (first | (go_at_call 13; refine Calls.mono (num_st hs _) ?_; clear hs; rintro e w ⟨rfl, hs⟩) | (go_at_call 16; refine Calls.mono (picks_t hs K4.out 7 Q4.out) ?_; clear hs; rintro e w ⟨rfl, hs⟩) | (go_at_call 17; refine Calls.mono (routes_t hs K4.out 2 7 ⟨3, 3, false, false⟩ 1 R4.out) ?_; clear hs; rintro e w ⟨rfl, hs⟩) | (go_at_call 16; refine Calls.mono (picks_t hs K5.out 7 Q5.out) ?_; clear hs; rintro e w ⟨rfl, hs⟩) | (go_at_call 17; refine Calls.mono (routes_t hs K5.out 2 7 ⟨0, 6, false, false⟩ 1 R5.out) ?_; clear hs; rintro e w ⟨rfl, hs⟩))
  go_wp2_with (first | (go_at_call 17; refine Calls.mono (routes_t hs K5.out 2 7 ⟨0, 6, false, false⟩ 4 R6.out) ?_; clear hs; rintro e w ⟨rfl, hs⟩) | (go_at_call 19; refine Calls.mono (connect_st' hs K5.out 0 S5.out) ?_; clear hs; rintro e w ⟨rfl, hs⟩) | (go_at_call 13; refine Calls.mono (num_st hs _) ?_; clear hs; rintro e w ⟨rfl, hs⟩) | (go_at_call 17; refine Calls.mono (routes_t hs K6.out 2 7 ⟨0, 7, false, false⟩ 3 R7.out) ?_; clear hs; rintro e w ⟨rfl, hs⟩) | (go_at_call 9; refine Calls.mono (decide_st' hs ⟨0, 2, false, false⟩ D0.out) ?_; clear hs; rintro e w ⟨rfl, hs⟩) | (go_at_call 18; refine Calls.mono (done_st' hs K6.out 0 1 D1.out) ?_; clear hs; rintro e w ⟨rfl, hs⟩))
  go_ret
  refine ⟨?_, hs.drop.drop⟩
  rfl
end Pa
end Go.Proofs.Ytplhelhijjmlaaa

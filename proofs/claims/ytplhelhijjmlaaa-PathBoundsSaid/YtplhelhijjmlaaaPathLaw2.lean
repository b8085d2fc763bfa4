/- The law PathBounds, walked. -/
import Derived.Test.YtplhelhijjmlaaaPathWorks
import Derived.Test.YtplhelhijjmlaaaPathBd
set_option linter.unusedSimpArgs false
set_option linter.unusedVariables false
namespace Go.Proofs.Ytplhelhijjmlaaa
open Go Go.RowKit
namespace Pa
open Se (St At Reads Cell)
variable {w0 w : World} {X : List Nat} {L : List At}
attribute [local irreducible] Calls submit done setState state turn learn route pick
set_option maxRecDepth 100000 in
set_option maxHeartbeats 8000000 in
theorem bounds_st (hs : St w0 X L w) (i g : Int) :
    Calls Try.prog 4 #[.int .i64 i, .int .i64 g] w fun e w' => e = .returned (.bool true) ∧ St w0 X L w' := by
  by_cases hz : 0 ≤ i ∧ i ≤ 31 ∧ 1 ≤ g ∧ g ≤ 128
  · obtain ⟨h1, h2, h3, h4⟩ := hz
    obtain ⟨low, hlow⟩ : ∃ low : Int, low = if i = 0 then 1 else 0 := ⟨_, rfl⟩
    obtain ⟨P0, P1, HH⟩ : ∃ P0 P1 : PP, newP1 32 256 = some P0 ∧ OkP P0 ∧ OkP P1 ∧ submit P0 i 1099511627776 = (P1, 0) ∧ submit P1 i 1 = (P1, 7) ∧ submit P1 i 1099511627777 = (P1, 2) ∧ setState P1 i 129 4 = (P1, 2) ∧ setState P1 32 g 4 = (P1, 3) ∧ pick P1 g = (low, 0) ∧ pick P1 129 = (0, 2) ∧ pick P1 0 = (0, 2) ∧ route P1 i g ⟨0, 6, false, false⟩ 255 = (P1, i, 2, 0) ∧ route P1 i g ⟨0, 6, false, false⟩ 256 = (P1, 0, 4, 0) ∧ done P1 i 1099511627776 = (P0, 0) ∧ pick P0 g = (0, 0) := by
      obtain ⟨n, rfl⟩ : ∃ n : Nat, i = n := ⟨i.toNat, by omega⟩
      have hn : n < 32 := by omega
      refine ⟨pB n 0, pB n maxB, ?_, pB_ok (by simp) (by simp [maxB]), pB_ok (by simp [maxB]) (Int.le_refl _), pB_submit hn, pB_more hn, pB_much, set_group _ _ _, set_path h3 h4, ?_, pick_far _ (by decide), pick_far _ (by decide), pB_here hn h3 h4 _, pB_gone hn h3 h4 _, pB_done hn, pB_pick h3 h4 (best_none n hn)⟩
      · rw [pB_zero n hn]; unfold newP1; rw [if_pos (by decide)]; rfl
      · rw [pB_pick h3 h4 (best_full n hn), hlow]
        by_cases e : n = 0
        · subst e; rfl
        · rw [if_neg e, if_neg (by omega)]; rfl
    obtain ⟨e0, k0, k1, s0, s1, s2, s3, s4, q0, q1, q2, r0, r1, d0, q3⟩ := HH
    obtain ⟨mx, hmx⟩ : ∃ mx : Int, mx = 1099511627776 := ⟨_, rfl⟩
    have hw := IntWalk.i64_in (mx + 1) (by omega)
    rw [← hmx] at s0 d0
    rw [show (1099511627777 : Int) = mx + 1 by omega] at s2
    have E0 := Lib.hid e0
    have E1 := Lib.hid (show newP1 33 256 = none by unfold newP1; rw [if_neg (by decide)])
    have E2 := Lib.hid (show newP1 32 257 = none by unfold newP1; rw [if_neg (by decide)])
    have K0 := Lib.hid k0
    have K1 := Lib.hid k1
    have S0 := Lib.hid s0
    have S1 := Lib.hid s1
    have S2 := Lib.hid s2
    have S3 := Lib.hid s3
    have S4 := Lib.hid s4
    have Q0 := Lib.hid q0
    have Q1 := Lib.hid q1
    have Q2 := Lib.hid q2
    have R0 := Lib.hid r0
    have R1 := Lib.hid r1
    have D0 := Lib.hid d0
    have Q3 := Lib.hid q3
    clear e0 k0 k1 s0 s1 s2 s3 s4 q0 q1 q2 r0 r1 d0 q3
    have T1 : decide (i < 0) = false := by simpa using h1
    have T2 : decide (31 < i) = false := by simpa using h2
    have T3 : decide (g < 1) = false := decide_eq_false (by omega)
    have T4 : decide (128 < g) = false := by simpa using h4
    obtain ⟨e, rfl⟩ | ⟨e, rfl⟩ : i = 0 ∧ low = 1 ∨ ¬ i = 0 ∧ low = 0 := by
      by_cases e : i = 0
      · exact .inl ⟨e, by rw [hlow, if_pos e]⟩
      · exact .inr ⟨e, by rw [hlow, if_neg e]⟩
    case' inl =>
      subst e
      clear T1 T2
    case' inr => have T5 : decide (i = 0) = false := decide_eq_false e
    all_goals
      clear h1 h2 h3 h4 hlow
      go_enter Try.func4, Try.ntmps4
      go_upto_region 3 with (first | (fail))
      go_upto_region 4 with (first | (go_at_call 12; refine Calls.mono (new_yes hs E0.out) ?_; clear hs; rintro e w ⟨D, gg, rfl, hs⟩))
      go_upto_region 5 with (first | (go_at_call 12; refine Calls.mono (new_no hs E1.out) ?_; clear hs; rintro e w ⟨rfl, hs⟩))
      go_upto_region 7 with (first | (go_at_call 12; refine Calls.mono (new_no hs E2.out) ?_; clear hs; rintro e w ⟨rfl, hs⟩))
      rw [← hmx]
      clear hmx
      go_upto_region 9 with (first | (go_at_call 13; refine Calls.mono (num_st hs _) ?_; clear hs; rintro e w ⟨rfl, hs⟩) | (go_at_call 14; refine Calls.mono (submit_st' hs K0.out _ mx S0.out) ?_; clear hs; rintro e w ⟨rfl, hs⟩) | (go_at_call 14; refine Calls.mono (submit_st' hs K1.out _ 1 S1.out) ?_; clear hs; rintro e w ⟨rfl, hs⟩) | (go_at_call 14; refine Calls.mono (submit_st' hs K1.out _ (mx + 1) S2.out) ?_; clear hs; rintro e w ⟨rfl, hs⟩) | (go_at_call 15; refine Calls.mono (setState_st' hs K1.out _ 129 4 S3.out) ?_; clear hs; rintro e w ⟨rfl, hs⟩) | (go_at_call 15; refine Calls.mono (setState_st' hs K1.out 32 g 4 S4.out) ?_; clear hs; rintro e w ⟨rfl, hs⟩))
      go_wp2_with (first | (go_at_call 16; refine Calls.mono (picks_t hs K1.out g Q0.out) ?_; clear hs; rintro e w ⟨rfl, hs⟩) | (go_at_call 16; refine Calls.mono (picks_t hs K1.out 129 Q1.out) ?_; clear hs; rintro e w ⟨rfl, hs⟩) | (go_at_call 16; refine Calls.mono (picks_t hs K1.out 0 Q2.out) ?_; clear hs; rintro e w ⟨rfl, hs⟩) | (go_at_call 17; refine Calls.mono (routes_t hs K1.out _ g ⟨0, 6, false, false⟩ 255 R0.out) ?_; clear hs; rintro e w ⟨rfl, hs⟩) | (go_at_call 17; refine Calls.mono (routes_t hs K1.out _ g ⟨0, 6, false, false⟩ 256 R1.out) ?_; clear hs; rintro e w ⟨rfl, hs⟩) | (go_at_call 18; refine Calls.mono (done_st' hs K1.out _ mx D0.out) ?_; clear hs; rintro e w ⟨rfl, hs⟩) | (go_at_call 13; refine Calls.mono (num_st hs _) ?_; clear hs; rintro e w ⟨rfl, hs⟩) | (go_at_call 16; refine Calls.mono (picks_t hs K0.out g Q3.out) ?_; clear hs; rintro e w ⟨rfl, hs⟩) | (go_at_call 11; refine Calls.mono (works_st hs) ?_; clear hs; rintro e w ⟨rfl, hs⟩))
      go_ret
      exact ⟨rfl, hs.drop.drop⟩
  · obtain h | ⟨h1, h⟩ | ⟨h1, h2, h⟩ | ⟨h1, h2, h3, h⟩ : i < 0 ∨ (0 ≤ i ∧ 31 < i) ∨ (0 ≤ i ∧ i ≤ 31 ∧ g < 1) ∨ (0 ≤ i ∧ i ≤ 31 ∧ 1 ≤ g ∧ 128 < g) := by omega
    case' inl => have T1 : decide (i < 0) = true := decide_eq_true h
    case' inr.inl =>
      have T1 : decide (i < 0) = false := decide_eq_false (by omega)
      have T2 : decide (31 < i) = true := decide_eq_true h
      clear h1
    case' inr.inr.inl =>
      have T1 : decide (i < 0) = false := decide_eq_false (by omega)
      have T2 : decide (31 < i) = false := decide_eq_false (by omega)
      have T3 : decide (g < 1) = true := decide_eq_true h
      clear h1 h2
    case' inr.inr.inr =>
      have T1 : decide (i < 0) = false := decide_eq_false (by omega)
      have T2 : decide (31 < i) = false := decide_eq_false (by omega)
      have T3 : decide (g < 1) = false := decide_eq_false (by omega)
      have T4 : decide (128 < g) = true := decide_eq_true h
      clear h1 h2 h3
    all_goals
      clear hz h
      go_enter Try.func4, Try.ntmps4
      go_wp2_with (first | (go_at_call 11; refine Calls.mono (works_st hs) ?_; clear hs; rintro e w ⟨rfl, hs⟩))
      go_ret
      exact ⟨rfl, hs⟩
theorem bounds_any (i g : Int) (w0 : World) :
    Calls Try.prog 4 #[.int .i64 i, .int .i64 g] w0 fun e w' => e = .returned (.bool true) ∧ Below w0.heap.size w0 w' :=
  (bounds_st (w0 := w0) (X := []) (L := []) (St.start w0 (by simp) rfl) i g).mono fun _ _ ⟨h1, h2⟩ => ⟨h1, h2.below⟩
end Pa
end Go.Proofs.Ytplhelhijjmlaaa

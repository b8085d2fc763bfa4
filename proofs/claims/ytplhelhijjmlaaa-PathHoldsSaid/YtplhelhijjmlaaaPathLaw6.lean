/- The law PathHolds, walked. -/
import Derived.Test.YtplhelhijjmlaaaPathHd
import Derived.Test.YtplhelhijjmlaaaPathIs
import Derived.Test.YtplhelhijjmlaaaPathOpen2
set_option linter.unusedSimpArgs false
set_option linter.unusedVariables false
namespace Go.Proofs.Ytplhelhijjmlaaa
open Go Go.RowKit
namespace Pa
open Se (St At Reads Cell)
attribute [local irreducible] Calls
variable {w0 w : World} {X : List Nat} {L : List At}
attribute [local go_sem] nf_eql
/-- What 'mine' holds behind k rounds. -/
def mv (j k : Nat) (m : Int) : Int := if j < k then m else -1
theorem mv_lt {j k : Nat} {m : Int} (h : j < k) : mv j k m = m := if_pos h
theorem mv_ne {j k : Nat} {m : Int} (h : j ≠ k) : mv j k m = mv j (k + 1) m := by
  unfold mv
  by_cases h1 : j < k
  · rw [if_pos h1, if_pos (by omega)]
  · rw [if_neg h1, if_neg (by omega)]
set_option maxRecDepth 100000 in
set_option maxHeartbeats 64000000 in
theorem holds_st {B E : Option Addr} {cb ce : Nat} (l : List AA) (sl : List Sta) (hs : St w0 X L w) (hB : At.rd B (l.flatMap ac) ∈ L) (hE : At.rd E (sl.flatMap sc) ∈ L) (n t g : Int) :
    Calls Try.prog 5 #[.int .i64 n, .int .i64 t, .slice B l.length cb, .int .i64 g, .slice E sl.length ce] w fun e w' => e = .returned (.bool true) ∧ St w0 X L w' := by
  have HB := Lib.hid hB
  have HEE := Lib.hid hE
  obtain ⟨m, hm⟩ : ∃ m, m = l.length := ⟨_, rfl⟩
  have HN := Lib.hid hm
  obtain ⟨k2, hk2⟩ : ∃ m, m = sl.length := ⟨_, rfl⟩
  have HK := Lib.hid hk2
  rw [← hm, ← hk2]
  clear hB hE hm hk2
  have key : (decide (n < 1) = false ∧ decide (32 < n) = false ∧ decide (t < 1) = false ∧ decide (20 < t) = false ∧ decide (40 < (m : Int)) = false ∧ decide (g < 1) = false ∧ decide (128 < g) = false ∧ decide (30 < (k2 : Int)) = false) ∨ n < 1 ∨ (decide (n < 1) = false ∧ 32 < n) ∨ (decide (n < 1) = false ∧ decide (32 < n) = false ∧ t < 1) ∨ (decide (n < 1) = false ∧ decide (32 < n) = false ∧ decide (t < 1) = false ∧ 20 < t) ∨ (decide (n < 1) = false ∧ decide (32 < n) = false ∧ decide (t < 1) = false ∧ decide (20 < t) = false ∧ 40 < (m : Int)) ∨ (decide (n < 1) = false ∧ decide (32 < n) = false ∧ decide (t < 1) = false ∧ decide (20 < t) = false ∧ decide (40 < (m : Int)) = false ∧ g < 1) ∨ (decide (n < 1) = false ∧ decide (32 < n) = false ∧ decide (t < 1) = false ∧ decide (20 < t) = false ∧ decide (40 < (m : Int)) = false ∧ decide (g < 1) = false ∧ 128 < g) ∨ (decide (n < 1) = false ∧ decide (32 < n) = false ∧ decide (t < 1) = false ∧ decide (20 < t) = false ∧ decide (40 < (m : Int)) = false ∧ decide (g < 1) = false ∧ decide (128 < g) = false ∧ 30 < (k2 : Int)) := by
    simp only [decide_eq_false_iff_not]; omega
  rcases key with ⟨T1, T2, T3, T4, T5, T6, T7, T8⟩ | key
  · have B1 : 1 ≤ n ∧ n ≤ 32 ∧ 1 ≤ t ∧ t ≤ 20 ∧ 1 ≤ g ∧ g ≤ 128 := by simp only [decide_eq_false_iff_not] at T1 T2 T3 T4 T6 T7; omega
    have B2 : m ≤ 40 ∧ k2 ≤ 30 := by simp only [decide_eq_false_iff_not] at T5 T8; omega
    obtain ⟨P0, e0, o0, l0, t0⟩ := newP1_some B1.1 B1.2.1 B1.2.2.1 (by omega : t ≤ 256)
    have E0 := Lib.hid e0
    have HP0 := Lib.hid (And.intro o0 (And.intro l0 t0))
    have HG := Lib.hid (show grp g = true by simp [grp, B1])
    have HB1 := Lib.hid B1
    have HB2 := Lib.hid B2
    clear e0 o0 l0 t0 B1 B2
    refine Se.enterM Try.func5 rfl ?_
    simp only [Try.ntmps5, List.size_toArray, List.length_cons, List.length_nil, Nat.reduceAdd, Nat.reduceSub, Array.replicate_succ, Array.replicate_zero, List.push_toArray, List.append_toArray, List.nil_append, List.cons_append]
    go_upto_region 6 with (first | ((with_reducible refine Se.isL (o := ⟨some 10, _, _, _, _, _⟩) ?_); (refine Se.toL rfl (Se.al (o := ⟨some 10, _, _, _, _, _⟩) hs rfl ((show _ = some [Value.bool false] from rfl)) ?_); clear hs; rintro w g10 - hs)) | ((with_reducible refine Se.isL (o := ⟨some 52, _, _, _, _, _⟩) ?_); (refine Se.toL rfl (Se.ld (o := ⟨some 52, _, _, _, _, _⟩) hs rfl rfl (Cell.blk 1 rfl rfl) (by kernel_rfl) ?_))) | ((with_reducible refine Se.isL (o := ⟨some 56, _, _, _, _, _⟩) ?_); (refine Se.toL rfl (Se.ld (o := ⟨some 56, _, _, _, _, _⟩) hs rfl rfl (Cell.blk 1 rfl rfl) (by kernel_rfl) ?_))) | ((with_reducible refine Se.isL (o := ⟨some 11, _, _, _, _, _⟩) ?_); (refine Se.toL rfl (Se.al (o := ⟨some 11, _, _, _, _, _⟩) hs rfl ((show _ = some [Value.pointer none] from rfl)) ?_); clear hs; rintro w g11 - hs)) | ((with_reducible refine Se.isL (o := ⟨none, Op.store 29 _ _, _, _, _, _⟩) ?_); ((first | refine Se.toL rfl (Se.so 0 (v := .int _ _) hs rfl rfl rfl rfl rfl (by kernel_rfl) (by simp) ?_) | refine Se.toL rfl (Se.so 0 (v := .bool _) hs rfl rfl rfl rfl rfl (by kernel_rfl) (by simp) ?_) | refine Se.toL rfl (Se.so 0 (v := .slice _ _ _) hs rfl rfl rfl rfl rfl (by kernel_rfl) (by simp) ?_) | refine Se.toL rfl (Se.so 0 (v := .pointer _) hs rfl rfl rfl rfl rfl (by kernel_rfl) (by simp) ?_) | refine Se.toL rfl (Se.so 0 (v := .string _) hs rfl rfl rfl rfl rfl (by kernel_rfl) (by simp) ?_) | refine Se.toL rfl (Se.so 0 (v := .map _) hs rfl rfl rfl rfl rfl (by kernel_rfl) (by simp) ?_) | refine Se.toL rfl (Se.so 0 (v := .func _ _ _) hs rfl rfl rfl rfl rfl (by kernel_rfl) (by simp) ?_) | refine Se.toL rfl (Se.so 0 (v := .nilFunc) hs rfl rfl rfl rfl rfl (by kernel_rfl) (by simp) ?_)); clear hs; intro w hs; try simp only [List.set_cons_zero] at hs)) | ((first | with_reducible refine Se.ab hs ?_ | with_reducible refine Se.abc hs ?_); clear hs; (first | (generalize w.heap.size = g8; intro w hs))) | (go_at_call 12; refine Calls.mono (new_yes hs E0.out) ?_; clear hs; rintro e w ⟨D, gg, rfl, hs⟩) | (go_at_call 13; refine Calls.mono (num_st hs _) ?_; clear hs; rintro e w ⟨rfl, hs⟩))
    clear T1 T2 T3 T4 T5 T6 T7 T8
    go_wp2_with fail
    go_loopg [13] m (fun gh s13 wr => ∃ (i : Nat) (p : PP), gh = m - i ∧ i ≤ m ∧ s13 = .int .i64 i ∧ Hid (OkP p ∧ (p.l.length : Int) = n ∧ p.tries = t) ∧ St w0 X (.blk g11 29 [.pointer (some ⟨D, 0, none⟩)] :: pD D (some ⟨gg, 0, none⟩) P0.l.length p :: pG gg 0 P0.l.length p :: .blk g10 4 [.bool false] :: .blk g8 3 [.int .i64 g] :: L) wr)
    case atStart => exact ⟨0, P0, rfl, by omega, rfl, HP0, hs⟩
    case round =>
      clear hs
      rename World => w
      obtain ⟨i, p, rfl, hi, rfl, HP, hs⟩ := hrel
      by_cases hlt : i < m
      · have hlt' : (i : Int) < (m : Int) := by omega
        have hil : i < l.length := by have := HN.out; omega
        have hne : l.flatMap ac ≠ [] := by
          intro h
          have h2 := flat_get (f := ac) (k := 10) l i 0 hil (by omega) (fun _ _ => rfl)
          rw [h] at h2
          simp at h2
        obtain ⟨gb, ob, rfl⟩ := hs.rd_at (List.mem_cons_of_mem _ (List.mem_cons_of_mem _ (List.mem_cons_of_mem _ (List.mem_cons_of_mem _ (List.mem_cons_of_mem _ HB.out))))) hne
        have HE := Lib.hid (show ∀ L' : List At, At.rd (some ⟨gb, ob, none⟩) (l.flatMap ac) ∈ L' → Reads L' (some ⟨gb, ob + i * 10, none⟩) (ac l[i]) from fun L' h => Se.Reads.elem (f := ac) (k := 10) (fun _ _ => rfl) (Reads.rdm h) hil)
        obtain ⟨a, ha⟩ : ∃ a, a = l[i] := ⟨_, rfl⟩
        rw [← ha] at HE
        have hw := IntWalk.i64_in ((i : Int) + 1) (by have := HB2.out; omega)
        clear hne ha hil
        obtain ⟨what, ai, ag, as', ab, atr, ⟨ty, code, more, never⟩⟩ := a
        go_upto_region 10 with (first | ((with_reducible refine Se.isL (o := ⟨some 83, _, _, _, _, _⟩) ?_); (refine Se.toL rfl (Se.ldw (o := ⟨some 83, _, _, _, _, _⟩) hs rfl rfl ((HE.out _ (by simp only [List.mem_cons, HB.out, or_true]))) ((by kernel_rfl)) (by kernel_rfl) ?_))) | ((with_reducible refine Se.isL (o := ⟨some 14, _, _, _, _, _⟩) ?_); (refine Se.toL rfl (Se.al (o := ⟨some 14, _, _, _, _, _⟩) hs rfl ((show _ = some [Value.int .i64 0, Value.int .i64 0, Value.int .i64 0, Value.int .i64 0, Value.int .i64 0, Value.int .i64 0, Value.int .u8 0, Value.int .u8 0, Value.bool false, Value.bool false] from rfl)) ?_); clear hs; rintro w g14 - hs)) | ((with_reducible refine Se.isL (o := ⟨none, Op.store 43 _ _, _, _, _, _⟩) ?_); (refine Se.toL rfl (Se.sow 0 hs rfl rfl rfl rfl ((by simp [Value.oneCell'])) ((by kernel_rfl)) (rfl) ?_); clear hs; intro w hs; try simp only [List.set_cons_zero] at hs)))
        have hwhat : what = 0 ∨ what = 1 ∨ what = 2 ∨ what = 3 ∨ ((what == 0) = false ∧ (what == 1) = false ∧ (what == 2) = false ∧ (what == 3) = false) := by
          simp only [beq_eq_false_iff_ne, ne_eq]; omega
        rcases hwhat with rfl | rfl | rfl | rfl | ⟨h0, h1, h2, h3⟩
        · obtain ⟨q, y, hy⟩ : ∃ q y, setState p ai ag as' = (q, y) := ⟨_, _, rfl⟩
          have HY := Lib.hid hy
          have HP' := Lib.hid (show OkP q ∧ (q.l.length : Int) = n ∧ q.tries = t by
            have e : q = (setState p ai ag as').1 := by rw [hy]
            obtain ⟨o, e1, e2⟩ := HP.out
            rw [e, (setState_l p ai ag as').1, (setState_l p ai ag as').2]
            exact ⟨setState_ok o .., e1, e2⟩)
          clear hy
          go_wp2_with (first | ((with_reducible refine Se.isL (o := ⟨some 85, _, _, _, _, _⟩) ?_); (refine Se.toL rfl (Se.ld (o := ⟨some 85, _, _, _, _, _⟩) hs rfl rfl (Cell.blk 0 rfl rfl) (by kernel_rfl) ?_))) | ((with_reducible refine Se.isL (o := ⟨some 95, _, _, _, _, _⟩) ?_); (refine Se.toL rfl (Se.ld (o := ⟨some 95, _, _, _, _, _⟩) hs rfl rfl (Cell.blk 1 rfl rfl) (by kernel_rfl) ?_))) | ((with_reducible refine Se.isL (o := ⟨some 97, _, _, _, _, _⟩) ?_); (refine Se.toL rfl (Se.ld (o := ⟨some 97, _, _, _, _, _⟩) hs rfl rfl (Cell.blk 0 rfl rfl) (by kernel_rfl) ?_))) | ((with_reducible refine Se.isL (o := ⟨some 99, _, _, _, _, _⟩) ?_); (refine Se.toL rfl (Se.ld (o := ⟨some 99, _, _, _, _, _⟩) hs rfl rfl (Cell.blk 0 rfl rfl) (by kernel_rfl) ?_))) | ((with_reducible refine Se.isL (o := ⟨some 101, _, _, _, _, _⟩) ?_); (refine Se.toL rfl (Se.ld (o := ⟨some 101, _, _, _, _, _⟩) hs rfl rfl (Cell.blk 0 rfl rfl) (by kernel_rfl) ?_))) | (go_at_call 15; refine Calls.mono (setState_st' hs.u22 HP.out.1 ai ag as' HY.out) ?_; clear hs; rintro e w ⟨rfl, hs⟩))
          go_roundg (m - (i + 1))
          case measure => omega
          case rel => exact ⟨i + 1, q, rfl, by omega, by go_num, HP', hs.u22.drop⟩
        · obtain ⟨q, y, hy⟩ : ∃ q y, setState p ai ag as' = (q, y) := ⟨_, _, rfl⟩
          have HY := Lib.hid hy
          have HP' := Lib.hid (show OkP q ∧ (q.l.length : Int) = n ∧ q.tries = t by
            have e : q = (setState p ai ag as').1 := by rw [hy]
            obtain ⟨o, e1, e2⟩ := HP.out
            rw [e, (setState_l p ai ag as').1, (setState_l p ai ag as').2]
            exact ⟨setState_ok o .., e1, e2⟩)
          clear hy
          go_wp2_with (first | ((with_reducible refine Se.isL (o := ⟨some 85, _, _, _, _, _⟩) ?_); (refine Se.toL rfl (Se.ld (o := ⟨some 85, _, _, _, _, _⟩) hs rfl rfl (Cell.blk 0 rfl rfl) (by kernel_rfl) ?_))) | ((with_reducible refine Se.isL (o := ⟨some 95, _, _, _, _, _⟩) ?_); (refine Se.toL rfl (Se.ld (o := ⟨some 95, _, _, _, _, _⟩) hs rfl rfl (Cell.blk 1 rfl rfl) (by kernel_rfl) ?_))) | ((with_reducible refine Se.isL (o := ⟨some 97, _, _, _, _, _⟩) ?_); (refine Se.toL rfl (Se.ld (o := ⟨some 97, _, _, _, _, _⟩) hs rfl rfl (Cell.blk 0 rfl rfl) (by kernel_rfl) ?_))) | ((with_reducible refine Se.isL (o := ⟨some 99, _, _, _, _, _⟩) ?_); (refine Se.toL rfl (Se.ld (o := ⟨some 99, _, _, _, _, _⟩) hs rfl rfl (Cell.blk 0 rfl rfl) (by kernel_rfl) ?_))) | ((with_reducible refine Se.isL (o := ⟨some 101, _, _, _, _, _⟩) ?_); (refine Se.toL rfl (Se.ld (o := ⟨some 101, _, _, _, _, _⟩) hs rfl rfl (Cell.blk 0 rfl rfl) (by kernel_rfl) ?_))) | (go_at_call 15; refine Calls.mono (setState_st' hs.u22 HP.out.1 ai ag as' HY.out) ?_; clear hs; rintro e w ⟨rfl, hs⟩))
          go_roundg (m - (i + 1))
          case measure => omega
          case rel => exact ⟨i + 1, q, rfl, by omega, by go_num, HP', hs.u22.drop⟩
        · obtain ⟨q, z, y, hy⟩ : ∃ q z y, turn p ai true = (q, z, y) := ⟨_, _, _, rfl⟩
          have HY := Lib.hid hy
          have HP' := Lib.hid (show OkP q ∧ (q.l.length : Int) = n ∧ q.tries = t by
            have e : q = (turn p ai true).1 := by rw [hy]
            obtain ⟨o, e1, e2⟩ := HP.out
            rw [e, (turn_l p ai true).1, (turn_l p ai true).2]
            exact ⟨turn_ok o .., e1, e2⟩)
          clear hy
          go_wp2_with (first | ((with_reducible refine Se.isL (o := ⟨some 85, _, _, _, _, _⟩) ?_); (refine Se.toL rfl (Se.ld (o := ⟨some 85, _, _, _, _, _⟩) hs rfl rfl (Cell.blk 0 rfl rfl) (by kernel_rfl) ?_))) | ((with_reducible refine Se.isL (o := ⟨some 105, _, _, _, _, _⟩) ?_); (refine Se.toL rfl (Se.ld (o := ⟨some 105, _, _, _, _, _⟩) hs rfl rfl (Cell.blk 1 rfl rfl) (by kernel_rfl) ?_))) | ((with_reducible refine Se.isL (o := ⟨some 107, _, _, _, _, _⟩) ?_); (refine Se.toL rfl (Se.ld (o := ⟨some 107, _, _, _, _, _⟩) hs rfl rfl (Cell.blk 0 rfl rfl) (by kernel_rfl) ?_))) | (go_at_call 19; refine Calls.mono (connect_st' hs.u22 HP.out.1 ai HY.out) ?_; clear hs; rintro e w ⟨rfl, hs⟩))
          go_roundg (m - (i + 1))
          case measure => omega
          case rel => exact ⟨i + 1, q, rfl, by omega, by go_num, HP', hs.u22.drop⟩
        · obtain ⟨q, z, y, hy⟩ : ∃ q z y, turn p ai false = (q, z, y) := ⟨_, _, _, rfl⟩
          have HY := Lib.hid hy
          have HP' := Lib.hid (show OkP q ∧ (q.l.length : Int) = n ∧ q.tries = t by
            have e : q = (turn p ai false).1 := by rw [hy]
            obtain ⟨o, e1, e2⟩ := HP.out
            rw [e, (turn_l p ai false).1, (turn_l p ai false).2]
            exact ⟨turn_ok o .., e1, e2⟩)
          clear hy
          go_wp2_with (first | ((with_reducible refine Se.isL (o := ⟨some 85, _, _, _, _, _⟩) ?_); (refine Se.toL rfl (Se.ld (o := ⟨some 85, _, _, _, _, _⟩) hs rfl rfl (Cell.blk 0 rfl rfl) (by kernel_rfl) ?_))) | ((with_reducible refine Se.isL (o := ⟨some 111, _, _, _, _, _⟩) ?_); (refine Se.toL rfl (Se.ld (o := ⟨some 111, _, _, _, _, _⟩) hs rfl rfl (Cell.blk 1 rfl rfl) (by kernel_rfl) ?_))) | ((with_reducible refine Se.isL (o := ⟨some 113, _, _, _, _, _⟩) ?_); (refine Se.toL rfl (Se.ld (o := ⟨some 113, _, _, _, _, _⟩) hs rfl rfl (Cell.blk 0 rfl rfl) (by kernel_rfl) ?_))) | (go_at_call 20; refine Calls.mono (disconnect_st' hs.u22 HP.out.1 ai HY.out) ?_; clear hs; rintro e w ⟨rfl, hs⟩))
          go_roundg (m - (i + 1))
          case measure => omega
          case rel => exact ⟨i + 1, q, rfl, by omega, by go_num, HP', hs.u22.drop⟩
        · obtain ⟨q, y, hy⟩ : ∃ q y, submit p ai ab = (q, y) := ⟨_, _, rfl⟩
          have HY := Lib.hid hy
          have HP' := Lib.hid (show OkP q ∧ (q.l.length : Int) = n ∧ q.tries = t by
            have e : q = (submit p ai ab).1 := by rw [hy]
            obtain ⟨o, e1, e2⟩ := HP.out
            rw [e, (submit_l p ai ab).1, (submit_l p ai ab).2]
            exact ⟨submit_ok o .., e1, e2⟩)
          clear hy
          go_wp2_with (first | ((with_reducible refine Se.isL (o := ⟨some 85, _, _, _, _, _⟩) ?_); (refine Se.toL rfl (Se.ld (o := ⟨some 85, _, _, _, _, _⟩) hs rfl rfl (Cell.blk 0 rfl rfl) (by kernel_rfl) ?_))) | ((with_reducible refine Se.isL (o := ⟨some 86, _, _, _, _, _⟩) ?_); (refine Se.toL rfl (Se.ld (o := ⟨some 86, _, _, _, _, _⟩) hs rfl rfl (Cell.blk 1 rfl rfl) (by kernel_rfl) ?_))) | ((with_reducible refine Se.isL (o := ⟨some 88, _, _, _, _, _⟩) ?_); (refine Se.toL rfl (Se.ld (o := ⟨some 88, _, _, _, _, _⟩) hs rfl rfl (Cell.blk 0 rfl rfl) (by kernel_rfl) ?_))) | ((with_reducible refine Se.isL (o := ⟨some 90, _, _, _, _, _⟩) ?_); (refine Se.toL rfl (Se.ld (o := ⟨some 90, _, _, _, _, _⟩) hs rfl rfl (Cell.blk 0 rfl rfl) (by kernel_rfl) ?_))) | (go_at_call 14; refine Calls.mono (submit_st' hs.u22 HP.out.1 ai ab HY.out) ?_; clear hs; rintro e w ⟨rfl, hs⟩))
          go_roundg (m - (i + 1))
          case measure => omega
          case rel => exact ⟨i + 1, q, rfl, by omega, by go_num, HP', hs.u22.drop⟩
      · obtain rfl : i = m := by omega
        obtain ⟨nn, hy | hy | hy⟩ := pick_cases p HG.out
        · obtain ⟨j, rfl, hj, hon, hst⟩ := pick_won HG.out hy
          have H1 := Lib.hid hy
          have H2 := Lib.hid (state_in hj HG.out)
          obtain ⟨x0, hx0⟩ : ∃ x, x = p.l.getD j dead := ⟨_, rfl⟩
          rw [← hx0] at H2 hon hst
          obtain ⟨σ, hσ⟩ : ∃ σ, σ = stOf x0 g := ⟨_, rfl⟩
          rw [← hσ] at H2 hst
          have HW := Lib.hid hst
          have HJ := Lib.hid (And.intro hj (And.intro hx0 hon))
          have hσ2 : σ = 1 ∨ σ = 2 := hst.elim (fun h => .inl h.1) (fun h => .inr h.1)
          clear hst hσ hx0 hon hy hj
          go_upto_region 20 with (first | ((with_reducible refine Se.isL (o := ⟨some 116, _, _, _, _, _⟩) ?_); (refine Se.toL rfl (Se.ld (o := ⟨some 116, _, _, _, _, _⟩) hs rfl rfl (Cell.blk 0 rfl rfl) (by kernel_rfl) ?_))) | ((with_reducible refine Se.isL (o := ⟨some 117, _, _, _, _, _⟩) ?_); (refine Se.toL rfl (Se.ld (o := ⟨some 117, _, _, _, _, _⟩) hs rfl rfl (Cell.blk 4 rfl rfl) (by kernel_rfl) ?_))) | ((with_reducible refine Se.isL (o := ⟨some 15, _, _, _, _, _⟩) ?_); (refine Se.toL rfl (Se.al (o := ⟨some 15, _, _, _, _, _⟩) hs rfl ((show _ = some [Value.int .i64 0] from rfl)) ?_); clear hs; rintro w g15 - hs)) | ((with_reducible refine Se.isL (o := ⟨none, Op.store 3 _ _, _, _, _, _⟩) ?_); ((first | refine Se.toL rfl (Se.so 0 (v := .int _ _) hs rfl rfl rfl rfl rfl (by kernel_rfl) (by simp) ?_) | refine Se.toL rfl (Se.so 0 (v := .bool _) hs rfl rfl rfl rfl rfl (by kernel_rfl) (by simp) ?_) | refine Se.toL rfl (Se.so 0 (v := .slice _ _ _) hs rfl rfl rfl rfl rfl (by kernel_rfl) (by simp) ?_) | refine Se.toL rfl (Se.so 0 (v := .pointer _) hs rfl rfl rfl rfl rfl (by kernel_rfl) (by simp) ?_) | refine Se.toL rfl (Se.so 0 (v := .string _) hs rfl rfl rfl rfl rfl (by kernel_rfl) (by simp) ?_) | refine Se.toL rfl (Se.so 0 (v := .map _) hs rfl rfl rfl rfl rfl (by kernel_rfl) (by simp) ?_) | refine Se.toL rfl (Se.so 0 (v := .func _ _ _) hs rfl rfl rfl rfl rfl (by kernel_rfl) (by simp) ?_) | refine Se.toL rfl (Se.so 0 (v := .nilFunc) hs rfl rfl rfl rfl rfl (by kernel_rfl) (by simp) ?_)); clear hs; intro w hs; try simp only [List.set_cons_zero] at hs)) | (go_at_call 21; refine Calls.mono (pick_st' hs.u21 HP.out.1 g H1.out) ?_; clear hs; rintro e w ⟨rfl, hs⟩))
          go_upto_region 23 with (first | ((with_reducible refine Se.isL (o := ⟨some 136, _, _, _, _, _⟩) ?_); (refine Se.toL rfl (Se.ld (o := ⟨some 136, _, _, _, _, _⟩) hs rfl rfl (Cell.blk 3 rfl rfl) (by kernel_rfl) ?_))) | ((with_reducible refine Se.isL (o := ⟨some 137, _, _, _, _, _⟩) ?_); (refine Se.toL rfl (Se.ld (o := ⟨some 137, _, _, _, _, _⟩) hs rfl rfl (Cell.blk 0 rfl rfl) (by kernel_rfl) ?_))) | ((with_reducible refine Se.isL (o := ⟨some 138, _, _, _, _, _⟩) ?_); (refine Se.toL rfl (Se.ld (o := ⟨some 138, _, _, _, _, _⟩) hs rfl rfl (Cell.blk 5 rfl rfl) (by kernel_rfl) ?_))) | ((with_reducible refine Se.isL (o := ⟨some 17, _, _, _, _, _⟩) ?_); (refine Se.toL rfl (Se.al (o := ⟨some 17, _, _, _, _, _⟩) hs rfl ((show _ = some [Value.int .i64 0] from rfl)) ?_); clear hs; rintro w g17 - hs)) | ((with_reducible refine Se.isL (o := ⟨none, Op.store 36 _ _, _, _, _, _⟩) ?_); ((first | refine Se.toL rfl (Se.so 0 (v := .int _ _) hs rfl rfl rfl rfl rfl (by kernel_rfl) (by simp) ?_) | refine Se.toL rfl (Se.so 0 (v := .bool _) hs rfl rfl rfl rfl rfl (by kernel_rfl) (by simp) ?_) | refine Se.toL rfl (Se.so 0 (v := .slice _ _ _) hs rfl rfl rfl rfl rfl (by kernel_rfl) (by simp) ?_) | refine Se.toL rfl (Se.so 0 (v := .pointer _) hs rfl rfl rfl rfl rfl (by kernel_rfl) (by simp) ?_) | refine Se.toL rfl (Se.so 0 (v := .string _) hs rfl rfl rfl rfl rfl (by kernel_rfl) (by simp) ?_) | refine Se.toL rfl (Se.so 0 (v := .map _) hs rfl rfl rfl rfl rfl (by kernel_rfl) (by simp) ?_) | refine Se.toL rfl (Se.so 0 (v := .func _ _ _) hs rfl rfl rfl rfl rfl (by kernel_rfl) (by simp) ?_) | refine Se.toL rfl (Se.so 0 (v := .nilFunc) hs rfl rfl rfl rfl rfl (by kernel_rfl) (by simp) ?_)); clear hs; intro w hs; try simp only [List.set_cons_zero] at hs)) | (go_at_call 13; refine Calls.mono (num_st hs _) ?_; clear hs; rintro e w ⟨rfl, hs⟩) | (go_at_call 22; refine Calls.mono (state_st' hs.u21 HP.out.1 j g H2.out) ?_; clear hs; rintro e w ⟨rfl, hs⟩))
          obtain ⟨mine, hmine⟩ : ∃ mine, mine = x0.b := ⟨_, rfl⟩
          have HMI := Lib.hid hmine
          clear hmine
          obtain ⟨NN, hNN⟩ : ∃ N, N = p.l.length := ⟨_, rfl⟩
          have HNN := Lib.hid hNN
          obtain ⟨f, hf⟩ : ∃ f : Nat → PS, f = fun i => p.l.getD i dead := ⟨_, rfl⟩
          have HF := Lib.hid hf
          have EO := Lib.hid (fun (L' : List At) (L2 : List At) (w' : World) (h : St w0 X (L' ++ (pD D (some ⟨gg, 0, none⟩) P0.l.length p :: pG gg 0 P0.l.length p :: L2)) w') => hNN ▸ hf ▸ each_ok HP.out.1 L' w' h)
          clear hNN hf
          have S1 := Lib.hid (show ∀ k : Nat, k < NN → state p k g = (stOf (f k) g, 0) from fun k hk => by rw [HF.out]; exact state_in (by rw [← HNN.out]; exact hk) HG.out)
          have hjN : j < NN := by have := HJ.out.1; have := HNN.out; omega
          have FJ := Lib.hid (show f j = x0 by rw [HF.out]; exact HJ.out.2.1.symm)
          have FW := Lib.hid (show ∀ k, k < NN → (f k).on = true → stOf (f k) g = 1 → σ = 1 ∧ mine ≤ (f k).b by
            intro k hk h1 h2
            have hk' : k < p.l.length := by rw [← HNN.out]; exact hk
            have hu : use g 1 (p.l.getD k dead) = true := by
              rw [HF.out] at h1 h2
              simp only [use, Bool.and_eq_true, decide_eq_true_eq]; exact ⟨h1, h2⟩
            rcases HW.out with ⟨h3, h4⟩ | ⟨h3, h4⟩
            · refine ⟨h3, ?_⟩
              rw [HMI.out, HF.out]
              exact h4 k hk' hu
            · rw [h4 k hk'] at hu; cases hu)
          have hNc : (NN : Int) = n := by rw [HNN.out]; exact HP.out.2.1
          have hN32 : NN ≤ 32 := by have := HB1.out; omega
          have hσ3 : (σ != 1) = false ∨ ((σ != 1) = true ∧ (σ != 2) = false) := by rcases hσ2 with h | h <;> simp [h]
          rcases hσ3 with hq1 | ⟨hq1, hq2⟩
          all_goals
            go_upto_region 29 with (first | ((with_reducible refine Se.isL (o := ⟨some 146, _, _, _, _, _⟩) ?_); (refine Se.toL rfl (Se.ld (o := ⟨some 146, _, _, _, _, _⟩) hs rfl rfl (Cell.blk 0 rfl rfl) (by kernel_rfl) ?_))) | ((with_reducible refine Se.isL (o := ⟨some 149, _, _, _, _, _⟩) ?_); (refine Se.toL rfl (Se.ld (o := ⟨some 149, _, _, _, _, _⟩) hs rfl rfl (Cell.blk 0 rfl rfl) (by kernel_rfl) ?_))) | ((with_reducible refine Se.isL (o := ⟨some 19, _, _, _, _, _⟩) ?_); (refine Se.toL rfl (Se.al (o := ⟨some 19, _, _, _, _, _⟩) hs rfl ((show _ = some [Value.int .i64 0] from rfl)) ?_); clear hs; rintro w g19 - hs)) | ((with_reducible refine Se.isL (o := ⟨none, Op.store 3 _ _, _, _, _, _⟩) ?_); ((first | refine Se.toL rfl (Se.so 0 (v := .int _ _) hs rfl rfl rfl rfl rfl (by kernel_rfl) (by simp) ?_) | refine Se.toL rfl (Se.so 0 (v := .bool _) hs rfl rfl rfl rfl rfl (by kernel_rfl) (by simp) ?_) | refine Se.toL rfl (Se.so 0 (v := .slice _ _ _) hs rfl rfl rfl rfl rfl (by kernel_rfl) (by simp) ?_) | refine Se.toL rfl (Se.so 0 (v := .pointer _) hs rfl rfl rfl rfl rfl (by kernel_rfl) (by simp) ?_) | refine Se.toL rfl (Se.so 0 (v := .string _) hs rfl rfl rfl rfl rfl (by kernel_rfl) (by simp) ?_) | refine Se.toL rfl (Se.so 0 (v := .map _) hs rfl rfl rfl rfl rfl (by kernel_rfl) (by simp) ?_) | refine Se.toL rfl (Se.so 0 (v := .func _ _ _) hs rfl rfl rfl rfl rfl (by kernel_rfl) (by simp) ?_) | refine Se.toL rfl (Se.so 0 (v := .nilFunc) hs rfl rfl rfl rfl rfl (by kernel_rfl) (by simp) ?_)); clear hs; intro w hs; try simp only [List.set_cons_zero] at hs)) | ((with_reducible refine Se.isL (o := ⟨some 153, _, _, _, _, _⟩) ?_); (refine Se.toL rfl (Se.ld (o := ⟨some 153, _, _, _, _, _⟩) hs rfl rfl (Cell.blk 5 rfl rfl) (by kernel_rfl) ?_))) | (go_at_call 13; refine Calls.mono (num_st hs _) ?_; clear hs; rintro e w ⟨rfl, hs⟩) | (go_at_call 23; refine Calls.mono (EO.out [_, _] _ w hs) ?_; clear hs; rintro e w ⟨b, M, rfl, HSeq, hs⟩))
            replace hs := hs.perm (L' := [_, _, _, _, _, _, _, _] ++ (M ++ L)) (List.perm_append_comm_assoc M [_, _, _, _, _, _, _, _] L)
            (try clear hq2)
            clear hq1
            go_wp2_with fail
            have HSQ := Lib.hid HSeq
            clear HSeq
            have hs : St w0 X ([.blk g19 3 [.int .i64 (-1)], .blk g17 36 [.int .i64 σ], pD D (some ⟨gg, 0, none⟩) P0.l.length p, pG gg 0 P0.l.length p, .blk g15 3 [.int .i64 (j : Int)], .blk g11 29 [.pointer (some ⟨D, 0, none⟩)], .blk g10 4 [.bool false], .blk g8 3 [.int .i64 g]] ++ (M ++ L)) w := hs
            refine Se.rangeSt (L := [.blk g19 3 [.int .i64 (-1)], .blk g17 36 [.int .i64 σ], pD D (some ⟨gg, 0, none⟩) P0.l.length p, pG gg 0 P0.l.length p, .blk g15 3 [.int .i64 (j : Int)], .blk g11 29 [.pointer (some ⟨D, 0, none⟩)], .blk g10 4 [.bool false], .blk g8 3 [.int .i64 g]]) (M := fun _ => M) (Lr := L) (lb := #[.pointer (some ⟨b, 0, none⟩)]) hs rfl (Go.Proofs.enters_of Try.func44 (by kernel_rfl) rfl) HSQ.out (fun _ => rfl)
              (fun k Lb => ∃ v, Hid (v = mv j k mine) ∧ Lb = [.blk g19 3 [.int .i64 v], .blk g17 36 [.int .i64 σ], pD D (some ⟨gg, 0, none⟩) P0.l.length p, pG gg 0 P0.l.length p, .blk g15 3 [.int .i64 (j : Int)], .blk g11 29 [.pointer (some ⟨D, 0, none⟩)], .blk g10 4 [.bool false], .blk g8 3 [.int .i64 g]]) (fun _ _ _ => False) ⟨-1, Lib.hid (by simp [mv]), rfl⟩ ?_ ?_ ?_
            · rintro l k x Lb w T hx ⟨v, hv, rfl⟩ hs
              obtain ⟨hkn, rfl⟩ : k < NN ∧ k = x := by
                have h1 := (List.getElem?_eq_some_iff.1 hx)
                obtain ⟨h1, h2⟩ := h1
                rw [List.length_range] at h1
                rw [List.getElem_range] at h2
                exact ⟨h1, h2⟩
              obtain ⟨x1, hx1⟩ : ∃ x1, x1 = f k := ⟨_, rfl⟩
              rw [show enc2 f k = #[.int .i64 (k : Int), .agg #[.bool x1.on, .int .i64 x1.b]] by rw [hx1]; rfl]
              have HX1 := Lib.hid hx1
              clear hx1
              simp only [List.cons_append, List.nil_append] at hs
              rw [Se.zip2]
              simp only [List.setIfInBounds_toArray, List.set_cons_zero, List.set_cons_succ]
              repeat (first | refine wpIn_block ?_ | refine wpIn_seq ?_)
              refine Se.regI (by repeat (first | exact Se.roundSt_out | exact Se.falsePost_out | refine Se.then_out ?_ | refine Se.block_out ?_)) (by rfl) ?_
              go_wp2_with fail
              (try simp only [Exit.then])
              repeat (first | refine wpIn_block ?_ | refine wpIn_seq ?_)
              refine Se.regI (by repeat (first | exact Se.roundSt_out | exact Se.falsePost_out | refine Se.then_out ?_ | refine Se.block_out ?_)) (by rfl) ?_
              go_wp2_with (first | ((with_reducible refine Se.isL (o := ⟨some 22, _, _, _, _, _⟩) ?_); (refine Se.toL rfl (Se.al (o := ⟨some 22, _, _, _, _, _⟩) hs rfl ((show _ = some [Value.bool false, Value.int .i64 0] from rfl)) ?_); clear hs; rintro w g22 - hs)) | ((with_reducible refine Se.isL (o := ⟨none, Op.store 53 _ _, _, _, _, _⟩) ?_); (refine Se.toL rfl (Se.sow 0 hs rfl rfl rfl rfl ((by simp [Value.oneCell'])) ((by kernel_rfl)) (rfl) ?_); clear hs; intro w hs; try simp only [List.set_cons_zero] at hs)))
              (try simp only [Exit.then])
              refine ⟨.blk g22 53 [.bool x1.on, .int .i64 x1.b] :: [.blk g19 3 [.int .i64 v], .blk g17 36 [.int .i64 σ], pD D (some ⟨gg, 0, none⟩) P0.l.length p, pG gg 0 P0.l.length p, .blk g15 3 [.int .i64 (j : Int)], .blk g11 29 [.pointer (some ⟨D, 0, none⟩)], .blk g10 4 [.bool false], .blk g8 3 [.int .i64 g]], hs, ?_⟩
              clear hs
              clear w T
              intro w T hs
              simp only [List.cons_append, List.nil_append] at hs
              by_cases hkj : k = j
              · have hx2 : x1 = x0 := by rw [HX1.out, hkj]; exact FJ.out
                have hon : x1.on = true := by rw [hx2]; exact HJ.out.2.2
                have hbm : x1.b = mine := by rw [hx2]; exact HMI.out.symm
                have hkk : ((k : Int) == (j : Int)) = true := by rw [hkj]; simp
                have HKJ := Lib.hid hkj
                clear hx2 hx hkj
                repeat (first | refine wpIn_block ?_ | refine wpIn_seq ?_)
                refine Se.regI (by repeat (first | exact Se.roundSt_out | exact Se.falsePost_out | refine Se.then_out ?_ | refine Se.block_out ?_)) (by rfl) ?_
                go_wp2_with (first | ((with_reducible refine Se.isL (o := ⟨some 161, _, _, _, _, _⟩) ?_); (refine Se.toL rfl (Se.ld (o := ⟨some 161, _, _, _, _, _⟩) hs rfl rfl (Cell.blk 5 rfl rfl) (by kernel_rfl) ?_))))
                (try simp only [Exit.then])
                change Code.wpIn (Se.WF (some l)) 0 Try.prog _ _ _ _
                refine wpIn_cond_true rfl ?_
                repeat (first | refine wpIn_block ?_ | refine wpIn_seq ?_)
                refine Se.regI (by repeat (first | exact Se.roundSt_out | exact Se.falsePost_out | refine Se.then_out ?_ | refine Se.block_out ?_)) (by rfl) ?_
                go_wp2_with (first | ((with_reducible refine Se.isL (o := ⟨some 164, _, _, _, _, _⟩) ?_); (refine Se.toL rfl (Se.ld (o := ⟨some 164, _, _, _, _, _⟩) hs rfl rfl (Cell.blk 0 rfl rfl) (by kernel_rfl) ?_))) | ((with_reducible refine Se.isL (o := ⟨none, Op.store 3 _ _, _, _, _, _⟩) ?_); ((first | refine Se.toL rfl (Se.so 1 (v := .int _ _) hs rfl rfl rfl rfl rfl (by kernel_rfl) (by simp) ?_) | refine Se.toL rfl (Se.so 1 (v := .bool _) hs rfl rfl rfl rfl rfl (by kernel_rfl) (by simp) ?_) | refine Se.toL rfl (Se.so 1 (v := .slice _ _ _) hs rfl rfl rfl rfl rfl (by kernel_rfl) (by simp) ?_) | refine Se.toL rfl (Se.so 1 (v := .pointer _) hs rfl rfl rfl rfl rfl (by kernel_rfl) (by simp) ?_) | refine Se.toL rfl (Se.so 1 (v := .string _) hs rfl rfl rfl rfl rfl (by kernel_rfl) (by simp) ?_) | refine Se.toL rfl (Se.so 1 (v := .map _) hs rfl rfl rfl rfl rfl (by kernel_rfl) (by simp) ?_) | refine Se.toL rfl (Se.so 1 (v := .func _ _ _) hs rfl rfl rfl rfl rfl (by kernel_rfl) (by simp) ?_) | refine Se.toL rfl (Se.so 1 (v := .nilFunc) hs rfl rfl rfl rfl rfl (by kernel_rfl) (by simp) ?_)); clear hs; intro w hs; try simp only [List.set_cons_zero, List.set_cons_succ] at hs)))
                (try simp only [Exit.then])
                change Code.wpIn (Se.WF (some l)) 0 Try.prog _ _ _ _
                repeat (first | refine wpIn_block ?_ | refine wpIn_seq ?_)
                refine Se.regI (by repeat (first | exact Se.roundSt_out | exact Se.falsePost_out | refine Se.then_out ?_ | refine Se.block_out ?_)) (by rfl) ?_
                go_wp2_with (first | ((with_reducible refine Se.isL (o := ⟨some 166, _, _, _, _, _⟩) ?_); (refine Se.toL rfl (Se.ld (o := ⟨some 166, _, _, _, _, _⟩) hs rfl rfl (Cell.blk 0 rfl rfl) (by kernel_rfl) ?_))))
                (try simp only [Exit.then])
                change Code.wpIn (Se.WF (some l)) 0 Try.prog _ _ _ _
                refine wpIn_cond_false rfl (wpIn_skip ?_)
                exact ⟨_, ⟨mine, Lib.hid (mv_lt (by have := HKJ.out; omega)).symm, rfl⟩, by rw [← hbm]; exact hs.drop⟩
              · have hkk : ((k : Int) == (j : Int)) = false := by simp; omega
                repeat (first | refine wpIn_block ?_ | refine wpIn_seq ?_)
                refine Se.regI (by repeat (first | exact Se.roundSt_out | exact Se.falsePost_out | refine Se.then_out ?_ | refine Se.block_out ?_)) (by rfl) ?_
                go_wp2_with (first | ((with_reducible refine Se.isL (o := ⟨some 161, _, _, _, _, _⟩) ?_); (refine Se.toL rfl (Se.ld (o := ⟨some 161, _, _, _, _, _⟩) hs rfl rfl (Cell.blk 5 rfl rfl) (by kernel_rfl) ?_))))
                (try simp only [Exit.then])
                change Code.wpIn (Se.WF (some l)) 0 Try.prog _ _ _ _
                refine wpIn_cond_false rfl (wpIn_skip ?_)
                exact ⟨_, ⟨v, Lib.hid (by rw [hv.out]; exact mv_ne (fun h => hkj h.symm)), rfl⟩, hs.drop⟩
            · rintro Dd Lb w ⟨v, hv, rfl⟩ hs
              replace hv := hv.out
              rw [List.length_range, mv_lt hjN] at hv
              rw [hv] at hs
              clear hv v
              simp only [Exit.inBlock, Exit.then]
              go_at_K
              simp only [List.cons_append, List.nil_append] at hs
              have hs := Se.St.mid (Lb := [_, _, _, _, _, _, _, _]) hs
              go_wp2_with fail
              have hs : St w0 X ([Se.dpc Dd, .blk g19 3 [.int .i64 mine], .blk g17 36 [.int .i64 σ], pD D (some ⟨gg, 0, none⟩) P0.l.length p, pG gg 0 P0.l.length p, .blk g15 3 [.int .i64 (j : Int)], .blk g11 29 [.pointer (some ⟨D, 0, none⟩)], .blk g10 4 [.bool false], .blk g8 3 [.int .i64 g]] ++ (M ++ L)) w := hs
              refine Se.rangeSt (L := [Se.dpc Dd, .blk g19 3 [.int .i64 mine], .blk g17 36 [.int .i64 σ], pD D (some ⟨gg, 0, none⟩) P0.l.length p, pG gg 0 P0.l.length p, .blk g15 3 [.int .i64 (j : Int)], .blk g11 29 [.pointer (some ⟨D, 0, none⟩)], .blk g10 4 [.bool false], .blk g8 3 [.int .i64 g]]) (M := fun _ => M) (Lr := L) (lb := #[.pointer (some ⟨b, 0, none⟩)]) hs rfl (Go.Proofs.enters_of Try.func44 (by kernel_rfl) rfl) HSQ.out (fun _ => rfl)
                (fun k Lb => Lb = [Se.dpc Dd, .blk g19 3 [.int .i64 mine], .blk g17 36 [.int .i64 σ], pD D (some ⟨gg, 0, none⟩) P0.l.length p, pG gg 0 P0.l.length p, .blk g15 3 [.int .i64 (j : Int)], .blk g11 29 [.pointer (some ⟨D, 0, none⟩)], .blk g10 4 [.bool false], .blk g8 3 [.int .i64 g]]) (fun _ _ _ => False) rfl ?_ ?_ ?_
              · rintro l k x Lb w T hx rfl hs
                obtain ⟨hkn, rfl⟩ : k < NN ∧ k = x := by
                  have h1 := (List.getElem?_eq_some_iff.1 hx)
                  obtain ⟨h1, h2⟩ := h1
                  rw [List.length_range] at h1
                  rw [List.getElem_range] at h2
                  exact ⟨h1, h2⟩
                obtain ⟨x1, hx1⟩ : ∃ x1, x1 = f k := ⟨_, rfl⟩
                rw [show enc2 f k = #[.int .i64 (k : Int), .agg #[.bool x1.on, .int .i64 x1.b]] by rw [hx1]; rfl]
                have HX1 := Lib.hid hx1
                clear hx1
                simp only [List.cons_append, List.nil_append] at hs
                rw [Se.zip2]
                simp only [List.setIfInBounds_toArray, List.set_cons_zero, List.set_cons_succ]
                repeat (first | refine wpIn_block ?_ | refine wpIn_seq ?_)
                refine Se.regI (by repeat (first | exact Se.roundSt_out | exact Se.falsePost_out | refine Se.then_out ?_ | refine Se.block_out ?_)) (by rfl) ?_
                go_wp2_with fail
                (try simp only [Exit.then])
                repeat (first | refine wpIn_block ?_ | refine wpIn_seq ?_)
                refine Se.regI (by repeat (first | exact Se.roundSt_out | exact Se.falsePost_out | refine Se.then_out ?_ | refine Se.block_out ?_)) (by rfl) ?_
                go_wp2_with (first | ((with_reducible refine Se.isL (o := ⟨some 24, _, _, _, _, _⟩) ?_); (refine Se.toL rfl (Se.al (o := ⟨some 24, _, _, _, _, _⟩) hs rfl ((show _ = some [Value.bool false, Value.int .i64 0] from rfl)) ?_); clear hs; rintro w g24 - hs)) | ((with_reducible refine Se.isL (o := ⟨none, Op.store 53 _ _, _, _, _, _⟩) ?_); (refine Se.toL rfl (Se.sow 0 hs rfl rfl rfl rfl ((by simp [Value.oneCell'])) ((by kernel_rfl)) (rfl) ?_); clear hs; intro w hs; try simp only [List.set_cons_zero] at hs)))
                (try simp only [Exit.then])
                refine ⟨.blk g24 53 [.bool x1.on, .int .i64 x1.b] :: [Se.dpc Dd, .blk g19 3 [.int .i64 mine], .blk g17 36 [.int .i64 σ], pD D (some ⟨gg, 0, none⟩) P0.l.length p, pG gg 0 P0.l.length p, .blk g15 3 [.int .i64 (j : Int)], .blk g11 29 [.pointer (some ⟨D, 0, none⟩)], .blk g10 4 [.bool false], .blk g8 3 [.int .i64 g]], hs, ?_⟩
                clear hs
                clear w T
                intro w T hs
                simp only [List.cons_append, List.nil_append] at hs
                obtain ⟨s1, hs1⟩ : ∃ s1, s1 = stOf x1 g := ⟨_, rfl⟩
                have HS1 := Lib.hid (show state p k g = (s1, 0) by rw [hs1, HX1.out]; exact S1.out k hkn)
                have key : x1.on = false ∨ (x1.on = true ∧ (s1 == 1) = false) ∨ (x1.on = true ∧ (s1 == 1) = true ∧ (σ != 1) = false ∧ decide (x1.b < mine) = false) := by
                  cases h : x1.on with
                  | false => exact .inl rfl
                  | true =>
                    by_cases h1 : s1 = 1
                    · have := FW.out k hkn (by rw [← HX1.out]; exact h) (by rw [← HX1.out, ← hs1]; exact h1)
                      rw [← HX1.out] at this
                      refine .inr (.inr ⟨rfl, by simp [h1], by simp [this.1], ?_⟩)
                      simp only [decide_eq_false_iff_not]; omega
                    · exact .inr (.inl ⟨rfl, by simpa using h1⟩)
                clear hs1 hx
                rcases key with h1 | ⟨h1, h2⟩ | ⟨h1, h2, h3, h4⟩
                · skip
                  repeat (first | refine wpIn_block ?_ | refine wpIn_seq ?_)
                  refine Se.regI (by repeat (first | exact Se.roundSt_out | exact Se.falsePost_out | refine Se.then_out ?_ | refine Se.block_out ?_)) (by rfl) ?_
                  go_wp2_with (first | ((with_reducible refine Se.isL (o := ⟨some 172, _, _, _, _, _⟩) ?_); (refine Se.toL rfl (Se.ld (o := ⟨some 172, _, _, _, _, _⟩) hs rfl rfl (Cell.blk 7 rfl rfl) (by kernel_rfl) ?_))) | ((with_reducible refine Se.isL (o := ⟨some 174, _, _, _, _, _⟩) ?_); (refine Se.toL rfl (Se.ld (o := ⟨some 174, _, _, _, _, _⟩) hs rfl rfl (Cell.blk 9 rfl rfl) (by kernel_rfl) ?_))) | (go_at_call 22; refine Calls.mono (state_st' hs.u24 HP.out.1 k g HS1.out) ?_; clear hs; rintro e w ⟨rfl, hs⟩))
                  (try simp only [Exit.then])
                  change Code.wpIn (Se.WF (some l)) 0 Try.prog _ _ _ _
                  repeat (first | refine wpIn_block ?_ | refine wpIn_seq ?_)
                  refine Se.regI (by repeat (first | exact Se.roundSt_out | exact Se.falsePost_out | refine Se.then_out ?_ | refine Se.block_out ?_)) (by rfl) ?_
                  go_wp2_with (first | ((with_reducible refine Se.isL (o := ⟨some 183, _, _, _, _, _⟩) ?_); (refine Se.toL rfl (Se.ld (o := ⟨some 183, _, _, _, _, _⟩) hs rfl rfl (Cell.blk 2 rfl rfl) (by kernel_rfl) ?_))) | (go_at_call 13; refine Calls.mono (num_st hs _) ?_; clear hs; rintro e w ⟨rfl, hs⟩))
                  (try simp only [Exit.then])
                  change Code.wpIn (Se.WF (some l)) 0 Try.prog _ _ _ _
                  refine wpIn_cond_false rfl (wpIn_skip ?_)
                  exact ⟨_, rfl, hs.u12.drop.u32⟩
                · skip
                  repeat (first | refine wpIn_block ?_ | refine wpIn_seq ?_)
                  refine Se.regI (by repeat (first | exact Se.roundSt_out | exact Se.falsePost_out | refine Se.then_out ?_ | refine Se.block_out ?_)) (by rfl) ?_
                  go_wp2_with (first | ((with_reducible refine Se.isL (o := ⟨some 172, _, _, _, _, _⟩) ?_); (refine Se.toL rfl (Se.ld (o := ⟨some 172, _, _, _, _, _⟩) hs rfl rfl (Cell.blk 7 rfl rfl) (by kernel_rfl) ?_))) | ((with_reducible refine Se.isL (o := ⟨some 174, _, _, _, _, _⟩) ?_); (refine Se.toL rfl (Se.ld (o := ⟨some 174, _, _, _, _, _⟩) hs rfl rfl (Cell.blk 9 rfl rfl) (by kernel_rfl) ?_))) | (go_at_call 22; refine Calls.mono (state_st' hs.u24 HP.out.1 k g HS1.out) ?_; clear hs; rintro e w ⟨rfl, hs⟩))
                  (try simp only [Exit.then])
                  change Code.wpIn (Se.WF (some l)) 0 Try.prog _ _ _ _
                  repeat (first | refine wpIn_block ?_ | refine wpIn_seq ?_)
                  refine Se.regI (by repeat (first | exact Se.roundSt_out | exact Se.falsePost_out | refine Se.then_out ?_ | refine Se.block_out ?_)) (by rfl) ?_
                  go_wp2_with (first | ((with_reducible refine Se.isL (o := ⟨some 183, _, _, _, _, _⟩) ?_); (refine Se.toL rfl (Se.ld (o := ⟨some 183, _, _, _, _, _⟩) hs rfl rfl (Cell.blk 2 rfl rfl) (by kernel_rfl) ?_))) | (go_at_call 13; refine Calls.mono (num_st hs _) ?_; clear hs; rintro e w ⟨rfl, hs⟩))
                  (try simp only [Exit.then])
                  change Code.wpIn (Se.WF (some l)) 0 Try.prog _ _ _ _
                  refine wpIn_cond_false rfl (wpIn_skip ?_)
                  exact ⟨_, rfl, hs.u12.drop.u32⟩
                · skip
                  repeat (first | refine wpIn_block ?_ | refine wpIn_seq ?_)
                  refine Se.regI (by repeat (first | exact Se.roundSt_out | exact Se.falsePost_out | refine Se.then_out ?_ | refine Se.block_out ?_)) (by rfl) ?_
                  go_wp2_with (first | ((with_reducible refine Se.isL (o := ⟨some 172, _, _, _, _, _⟩) ?_); (refine Se.toL rfl (Se.ld (o := ⟨some 172, _, _, _, _, _⟩) hs rfl rfl (Cell.blk 7 rfl rfl) (by kernel_rfl) ?_))) | ((with_reducible refine Se.isL (o := ⟨some 174, _, _, _, _, _⟩) ?_); (refine Se.toL rfl (Se.ld (o := ⟨some 174, _, _, _, _, _⟩) hs rfl rfl (Cell.blk 9 rfl rfl) (by kernel_rfl) ?_))) | (go_at_call 22; refine Calls.mono (state_st' hs.u24 HP.out.1 k g HS1.out) ?_; clear hs; rintro e w ⟨rfl, hs⟩))
                  (try simp only [Exit.then])
                  change Code.wpIn (Se.WF (some l)) 0 Try.prog _ _ _ _
                  repeat (first | refine wpIn_block ?_ | refine wpIn_seq ?_)
                  refine Se.regI (by repeat (first | exact Se.roundSt_out | exact Se.falsePost_out | refine Se.then_out ?_ | refine Se.block_out ?_)) (by rfl) ?_
                  go_wp2_with (first | ((with_reducible refine Se.isL (o := ⟨some 183, _, _, _, _, _⟩) ?_); (refine Se.toL rfl (Se.ld (o := ⟨some 183, _, _, _, _, _⟩) hs rfl rfl (Cell.blk 2 rfl rfl) (by kernel_rfl) ?_))) | ((with_reducible refine Se.isL (o := ⟨some 189, _, _, _, _, _⟩) ?_); (refine Se.toL rfl (Se.ld (o := ⟨some 189, _, _, _, _, _⟩) hs rfl rfl (Cell.blk 5 rfl rfl) (by kernel_rfl) ?_))) | ((with_reducible refine Se.isL (o := ⟨some 193, _, _, _, _, _⟩) ?_); (refine Se.toL rfl (Se.ld (o := ⟨some 193, _, _, _, _, _⟩) hs rfl rfl (Cell.blk 2 rfl rfl) (by kernel_rfl) ?_))) | ((with_reducible refine Se.isL (o := ⟨some 194, _, _, _, _, _⟩) ?_); (refine Se.toL rfl (Se.ld (o := ⟨some 194, _, _, _, _, _⟩) hs rfl rfl (Cell.blk 4 rfl rfl) (by kernel_rfl) ?_))) | (go_at_call 13; refine Calls.mono (num_st hs _) ?_; clear hs; rintro e w ⟨rfl, hs⟩))
                  (try simp only [Exit.then])
                  change Code.wpIn (Se.WF (some l)) 0 Try.prog _ _ _ _
                  refine wpIn_cond_false rfl (wpIn_skip ?_)
                  exact ⟨_, rfl, hs.u12.drop.u32⟩
              · rintro D2 Lb w rfl hs
                simp only [Exit.inBlock, Exit.then]
                go_at_K
                simp only [List.cons_append, List.nil_append] at hs
                have hs := Se.St.mid (Lb := [_, _, _, _, _, _, _, _, _]) hs
                simp only [List.cons_append, List.nil_append] at hs
                go_upto_region 43 with (first | ((with_reducible refine Se.isL (o := ⟨some 199, _, _, _, _, _⟩) ?_); (refine Se.toL rfl (Se.ld (o := ⟨some 199, _, _, _, _, _⟩) hs rfl rfl (Cell.blk 6 rfl rfl) (by kernel_rfl) ?_))))
                go_wp2_with fail
                have HAJ := Lib.hid (And.intro HP.out (show j < p.l.length by rw [← HNN.out]; exact hjN))
                clear HP
                go_loopg [27, 28] k2 (fun gh s27 s28 wr => ∃ (i a : Nat) (p : PP), gh = k2 - i ∧ i ≤ k2 ∧ s27 = .int .i64 a ∧ s28 = .int .i64 i ∧ Hid ((OkP p ∧ (p.l.length : Int) = n ∧ p.tries = t) ∧ a < p.l.length) ∧ St w0 X (Se.dpc D2 :: Se.dpc Dd :: .blk g19 3 [.int .i64 mine] :: .blk g17 36 [.int .i64 σ] :: pD D (some ⟨gg, 0, none⟩) P0.l.length p :: pG gg 0 P0.l.length p :: .blk g15 3 [.int .i64 (j : Int)] :: .blk g11 29 [.pointer (some ⟨D, 0, none⟩)] :: .blk g10 4 [.bool false] :: .blk g8 3 [.int .i64 g] :: (M ++ L)) wr)
                case atStart => exact ⟨0, j, p, rfl, by omega, rfl, rfl, HAJ, hs⟩
                case round =>
                  clear hs HAJ
                  rename World => w
                  obtain ⟨i, a, p, rfl, hi, rfl, rfl, HP, hs⟩ := hrel
                  by_cases hlt : i < k2
                  · have hlt' : (i : Int) < (k2 : Int) := by omega
                    have hil : i < sl.length := by have := HK.out; omega
                    have hne : sl.flatMap sc ≠ [] := by
                      intro h
                      have h2 := flat_get (f := sc) (k := 4) sl i 0 hil (by omega) (fun _ _ => rfl)
                      rw [h] at h2
                      simp at h2
                    obtain ⟨ge, oe, rfl⟩ := hs.rd_at (A := E) (by simp only [List.mem_cons, List.mem_append, HEE.out, or_true]) hne
                    have HE2 := Lib.hid (show ∀ L' : List At, At.rd (some ⟨ge, oe, none⟩) (sl.flatMap sc) ∈ L' → Reads L' (some ⟨ge, oe + i * 4, none⟩) (sc sl[i]) from fun L' h => Se.Reads.elem (f := sc) (k := 4) (fun _ _ => rfl) (Reads.rdm h) hil)
                    obtain ⟨st, hst⟩ : ∃ st, st = sl[i] := ⟨_, rfl⟩
                    rw [← hst] at HE2
                    have hw := IntWalk.i64_in ((i : Int) + 1) (by have := HB2.out; omega)
                    obtain ⟨q, n', act, hr, hql, hqt, hend, hcase⟩ := route_end (t := (i : Int) + 1) st (rngN HP.out.2) HG.out (by omega)
                    have H1 := Lib.hid hr
                    have HP' := Lib.hid (show OkP q ∧ (q.l.length : Int) = n ∧ q.tries = t by
                      refine ⟨?_, by rw [hql]; exact HP.out.1.2.1, by rw [hqt]; exact HP.out.1.2.2⟩
                      have := route_ok HP.out.1.1 a g st ((i : Int) + 1)
                      rwa [hr] at this)
                    have key : (t ≤ (i : Int) + 1 ∧ act = 1) ∨ (t ≤ (i : Int) + 1 ∧ act = 4) ∨ (decide (t ≤ (i : Int) + 1) = false ∧ act = 1) ∨ (decide (t ≤ (i : Int) + 1) = false ∧ act = 4) ∨ (decide (t ≤ (i : Int) + 1) = false ∧ act = 5) ∨ (decide (t ≤ (i : Int) + 1) = false ∧ act = 2 ∧ n' = a) ∨ (decide (t ≤ (i : Int) + 1) = false ∧ act = 3 ∧ ∃ b : Nat, n' = (b : Int) ∧ b < q.l.length) := by
                      rw [HP.out.1.2.2] at hend
                      simp only [decide_eq_false_iff_not]
                      by_cases ht : t ≤ (i : Int) + 1
                      · rcases hend ht with h | h <;> simp [ht, h]
                      · rcases hcase with h | ⟨h, h2⟩ | ⟨h, h2, h3⟩ | h | h
                        · simp [ht, h]
                        · simp [ht, h, h2]
                        · refine .inr (.inr (.inr (.inr (.inr (.inr ⟨ht, h, n'.toNat, by omega, by omega⟩)))))
                        · simp [ht, h]
                        · simp [ht, h]
                    have HAN := Lib.hid (show a < q.l.length by rw [hql]; exact HP.out.2)
                    clear hne hst hil hr hql hqt hend hcase
                    go_upto_region 46 with (fail)
                    refine Ch.region' 17 (fun wx => Li.Blk wx g11 [.pointer (some ⟨D, 0, none⟩)] 29 ∧ Li.Blk wx g8 [.int .i64 g] 3 ∧ Li.Rd wx (some ⟨ge, oe + i * 4, none⟩) (sc st)) (fun | 9 => true | _ => false) (by kernel_rfl) (by decide +kernel) (⟨hs.drew.hold (.blk g11 29 [.pointer (some ⟨D, 0, none⟩)]) (by simp), hs.drew.hold (.blk g8 3 [.int .i64 g]) (by simp), HE2.out _ (by simp only [List.mem_cons, List.mem_append, HEE.out, or_true]) _ hs.drew.hold⟩) ?_
                    replace hs := hs.drew
                    generalize w.drew = w at hs ⊢
                    change Ch.CW _ _ _ _ _ [0, 1, 2, 3, 4, 5, 6, 7, 8, 9, 10, 11, 12, 13, 14, 15, 16] _ _
                    iterate 9 ((first | (refine Ch.pure (v := ?_) (by rfl) (by rfl) (by rfl) (fun wx hS => ?_) ?_; rotate_left; (focus (go_simp; (first | done | with_reducible rfl)))) | refine Ch.pure (v := _) (by rfl) (by rfl) (by rfl) (fun wx hS => Se.xl rfl rfl (by rw [(hS.1).cell]; rfl) (by decide +kernel)) ?_ | refine Ch.pure (v := _) (by rfl) (by rfl) (by rfl) (fun wx hS => Se.xl rfl rfl (by rw [(hS.2.1).cell]; rfl) (by decide +kernel)) ?_ | refine Ch.pure (v := _) (by rfl) (by rfl) (by rfl) (fun wx hS => Se.xla rfl rfl hS.2.2 (by kernel_rfl) (by kernel_rfl)) ?_); (try simp only [Act.put, List.setIfInBounds_toArray, List.set_cons_zero, List.set_cons_succ]))
                    refine Ch.noise (by rfl) (by rfl) (by rfl) ?_
                    refine Se.gcall (f := 24) (args := #[.pointer (some ⟨D, 0, none⟩), .int .i64 a, .int .i64 g, stv st, .int .i64 ((i : Int) + 1)]) ?_ ?_
                    · go_simp
                    refine Calls.mono (route_st' hs.u24 HP.out.1.1 a g st ((i : Int) + 1) H1.out) ?_
                    clear hs
                    rintro e w ⟨rfl, hs⟩
                    refine ⟨_, rfl, ⟨hs.hold (.blk g11 29 [.pointer (some ⟨D, 0, none⟩)]) (by simp), hs.hold (.blk g8 3 [.int .i64 g]) (by simp), HE2.out _ (by simp only [List.mem_cons, List.mem_append, HEE.out, or_true]) _ hs.hold⟩, ?_⟩
                    (try simp only [Act.put, List.setIfInBounds_toArray, List.set_cons_zero, List.set_cons_succ])
                    iterate 7 (refine Ch.pure (v := ?_) (by rfl) (by rfl) (by rfl) (fun wx hS => ?_) ?_; rotate_left; (focus (go_simp; (first | done | with_reducible rfl))); (try simp only [Act.put, List.setIfInBounds_toArray, List.set_cons_zero, List.set_cons_succ]))
                    refine Ch.done ?_
                    simp only [List.drop_succ_cons, List.drop_zero]
                    have hs := hs.u42
                    have hqn : (q.l.length : Int) = n := HP'.out.2.1
                    have hal : (a : Int) < n := by have := HAN.out; omega
                    have hd1 : decide ((a : Int) < 0) = false := by simp
                    have hd2 : decide (n ≤ (a : Int)) = false := by simpa using hal
                    rcases key with ⟨h1, rfl⟩ | ⟨h1, rfl⟩ | ⟨h1, rfl⟩ | ⟨h1, rfl⟩ | ⟨h1, rfl⟩ | ⟨h1, rfl, rfl⟩ | ⟨h1, rfl, b', rfl, hb'⟩
                    iterate 5
                      · go_wp2_with (first | ((with_reducible refine Se.isL (o := ⟨none, Op.store 4 _ _, _, _, _, _⟩) ?_); ((first | refine Se.toL rfl (Se.so 8 (v := .int _ _) hs rfl rfl rfl rfl rfl (by kernel_rfl) (by simp) ?_) | refine Se.toL rfl (Se.so 8 (v := .bool _) hs rfl rfl rfl rfl rfl (by kernel_rfl) (by simp) ?_) | refine Se.toL rfl (Se.so 8 (v := .slice _ _ _) hs rfl rfl rfl rfl rfl (by kernel_rfl) (by simp) ?_) | refine Se.toL rfl (Se.so 8 (v := .pointer _) hs rfl rfl rfl rfl rfl (by kernel_rfl) (by simp) ?_) | refine Se.toL rfl (Se.so 8 (v := .string _) hs rfl rfl rfl rfl rfl (by kernel_rfl) (by simp) ?_) | refine Se.toL rfl (Se.so 8 (v := .map _) hs rfl rfl rfl rfl rfl (by kernel_rfl) (by simp) ?_) | refine Se.toL rfl (Se.so 8 (v := .func _ _ _) hs rfl rfl rfl rfl rfl (by kernel_rfl) (by simp) ?_) | refine Se.toL rfl (Se.so 8 (v := .nilFunc) hs rfl rfl rfl rfl rfl (by kernel_rfl) (by simp) ?_)); clear hs; intro w hs; try simp only [List.set_cons_zero, List.set_cons_succ] at hs)) | (go_at_call 13; refine Calls.mono (num_st hs _) ?_; clear hs; rintro e w ⟨rfl, hs⟩) | (go_at_call 11; refine Calls.mono (works_st hs) ?_; clear hs; rintro e w ⟨rfl, hs⟩))
                        refine Se.leave1 hs ?_
                        clear hs
                        intro w hs
                        refine Se.leave1 hs ?_
                        clear hs
                        intro w hs
                        refine Se.leave0 (Se.results_cell1 hs rfl rfl (Cell.blk 6 rfl rfl) (by kernel_rfl)) ⟨rfl, ?_⟩
                        exact (hs.drop.drop.drop.drop.drop.drop.drop.drop).sub (List.sublist_append_right _ _)
                    · go_wp2_with (first | (go_at_call 13; refine Calls.mono (num_st hs _) ?_; clear hs; rintro e w ⟨rfl, hs⟩))
                      go_roundg (k2 - (i + 1))
                      case measure => omega
                      case rel => exact ⟨i + 1, a, q, rfl, by omega, rfl, by go_num, Lib.hid ⟨HP'.out, HAN.out⟩, hs⟩
                    · have hbl : (b' : Int) < n := by omega
                      have hd3 : decide ((b' : Int) < 0) = false := by simp
                      have hd4 : decide (n ≤ (b' : Int)) = false := by simpa using hbl
                      go_wp2_with (first | (go_at_call 13; refine Calls.mono (num_st hs _) ?_; clear hs; rintro e w ⟨rfl, hs⟩))
                      go_roundg (k2 - (i + 1))
                      case measure => omega
                      case rel => exact ⟨i + 1, b', q, rfl, by omega, rfl, by go_num, Lib.hid ⟨HP'.out, hb'⟩, hs⟩
                  · obtain rfl : i = k2 := by omega
                    go_wp2_with (first | ((with_reducible refine Se.isL (o := ⟨none, Op.store 4 _ _, _, _, _, _⟩) ?_); ((first | refine Se.toL rfl (Se.so 8 (v := .int _ _) hs rfl rfl rfl rfl rfl (by kernel_rfl) (by simp) ?_) | refine Se.toL rfl (Se.so 8 (v := .bool _) hs rfl rfl rfl rfl rfl (by kernel_rfl) (by simp) ?_) | refine Se.toL rfl (Se.so 8 (v := .slice _ _ _) hs rfl rfl rfl rfl rfl (by kernel_rfl) (by simp) ?_) | refine Se.toL rfl (Se.so 8 (v := .pointer _) hs rfl rfl rfl rfl rfl (by kernel_rfl) (by simp) ?_) | refine Se.toL rfl (Se.so 8 (v := .string _) hs rfl rfl rfl rfl rfl (by kernel_rfl) (by simp) ?_) | refine Se.toL rfl (Se.so 8 (v := .map _) hs rfl rfl rfl rfl rfl (by kernel_rfl) (by simp) ?_) | refine Se.toL rfl (Se.so 8 (v := .func _ _ _) hs rfl rfl rfl rfl rfl (by kernel_rfl) (by simp) ?_) | refine Se.toL rfl (Se.so 8 (v := .nilFunc) hs rfl rfl rfl rfl rfl (by kernel_rfl) (by simp) ?_)); clear hs; intro w hs; try simp only [List.set_cons_zero, List.set_cons_succ] at hs)) | (go_at_call 11; refine Calls.mono (works_st hs) ?_; clear hs; rintro e w ⟨rfl, hs⟩))
                    refine Se.leave1 hs ?_
                    clear hs
                    intro w hs
                    refine Se.leave1 hs ?_
                    clear hs
                    intro w hs
                    refine Se.leave0 (Se.results_cell1 hs rfl rfl (Cell.blk 6 rfl rfl) (by kernel_rfl)) ⟨rfl, ?_⟩
                    exact (hs.drop.drop.drop.drop.drop.drop.drop.drop).sub (List.sublist_append_right _ _)
              · rintro D2 cd k Lb w hkn h
                exact h.elim
            · rintro Dd cd k Lb w hkn h
              exact h.elim
        · have H1 := Lib.hid hy
          clear hy
          go_upto_region 20 with (first | ((with_reducible refine Se.isL (o := ⟨some 116, _, _, _, _, _⟩) ?_); (refine Se.toL rfl (Se.ld (o := ⟨some 116, _, _, _, _, _⟩) hs rfl rfl (Cell.blk 0 rfl rfl) (by kernel_rfl) ?_))) | ((with_reducible refine Se.isL (o := ⟨some 117, _, _, _, _, _⟩) ?_); (refine Se.toL rfl (Se.ld (o := ⟨some 117, _, _, _, _, _⟩) hs rfl rfl (Cell.blk 4 rfl rfl) (by kernel_rfl) ?_))) | ((with_reducible refine Se.isL (o := ⟨some 15, _, _, _, _, _⟩) ?_); (refine Se.toL rfl (Se.al (o := ⟨some 15, _, _, _, _, _⟩) hs rfl ((show _ = some [Value.int .i64 0] from rfl)) ?_); clear hs; rintro w g15 - hs)) | ((with_reducible refine Se.isL (o := ⟨none, Op.store 3 _ _, _, _, _, _⟩) ?_); ((first | refine Se.toL rfl (Se.so 0 (v := .int _ _) hs rfl rfl rfl rfl rfl (by kernel_rfl) (by simp) ?_) | refine Se.toL rfl (Se.so 0 (v := .bool _) hs rfl rfl rfl rfl rfl (by kernel_rfl) (by simp) ?_) | refine Se.toL rfl (Se.so 0 (v := .slice _ _ _) hs rfl rfl rfl rfl rfl (by kernel_rfl) (by simp) ?_) | refine Se.toL rfl (Se.so 0 (v := .pointer _) hs rfl rfl rfl rfl rfl (by kernel_rfl) (by simp) ?_) | refine Se.toL rfl (Se.so 0 (v := .string _) hs rfl rfl rfl rfl rfl (by kernel_rfl) (by simp) ?_) | refine Se.toL rfl (Se.so 0 (v := .map _) hs rfl rfl rfl rfl rfl (by kernel_rfl) (by simp) ?_) | refine Se.toL rfl (Se.so 0 (v := .func _ _ _) hs rfl rfl rfl rfl rfl (by kernel_rfl) (by simp) ?_) | refine Se.toL rfl (Se.so 0 (v := .nilFunc) hs rfl rfl rfl rfl rfl (by kernel_rfl) (by simp) ?_)); clear hs; intro w hs; try simp only [List.set_cons_zero] at hs)) | (go_at_call 21; refine Calls.mono (pick_st' hs.u21 HP.out.1 g H1.out) ?_; clear hs; rintro e w ⟨rfl, hs⟩))
          go_wp2_with (first | ((with_reducible refine Se.isL (o := ⟨none, Op.store 4 _ _, _, _, _, _⟩) ?_); ((first | refine Se.toL rfl (Se.so 4 (v := .int _ _) hs rfl rfl rfl rfl rfl (by kernel_rfl) (by simp) ?_) | refine Se.toL rfl (Se.so 4 (v := .bool _) hs rfl rfl rfl rfl rfl (by kernel_rfl) (by simp) ?_) | refine Se.toL rfl (Se.so 4 (v := .slice _ _ _) hs rfl rfl rfl rfl rfl (by kernel_rfl) (by simp) ?_) | refine Se.toL rfl (Se.so 4 (v := .pointer _) hs rfl rfl rfl rfl rfl (by kernel_rfl) (by simp) ?_) | refine Se.toL rfl (Se.so 4 (v := .string _) hs rfl rfl rfl rfl rfl (by kernel_rfl) (by simp) ?_) | refine Se.toL rfl (Se.so 4 (v := .map _) hs rfl rfl rfl rfl rfl (by kernel_rfl) (by simp) ?_) | refine Se.toL rfl (Se.so 4 (v := .func _ _ _) hs rfl rfl rfl rfl rfl (by kernel_rfl) (by simp) ?_) | refine Se.toL rfl (Se.so 4 (v := .nilFunc) hs rfl rfl rfl rfl rfl (by kernel_rfl) (by simp) ?_)); clear hs; intro w hs; try simp only [List.set_cons_zero, List.set_cons_succ] at hs)) | (go_at_call 13; refine Calls.mono (num_st hs _) ?_; clear hs; rintro e w ⟨rfl, hs⟩) | (go_at_call 11; refine Calls.mono (works_st hs) ?_; clear hs; rintro e w ⟨rfl, hs⟩))
          refine Se.leave0 (Se.results_cell1 hs rfl rfl (Cell.blk 4 rfl rfl) (by kernel_rfl)) ⟨rfl, ?_⟩
          exact hs.drop.drop.drop.drop.drop.drop
        · have H1 := Lib.hid hy
          clear hy
          go_upto_region 20 with (first | ((with_reducible refine Se.isL (o := ⟨some 116, _, _, _, _, _⟩) ?_); (refine Se.toL rfl (Se.ld (o := ⟨some 116, _, _, _, _, _⟩) hs rfl rfl (Cell.blk 0 rfl rfl) (by kernel_rfl) ?_))) | ((with_reducible refine Se.isL (o := ⟨some 117, _, _, _, _, _⟩) ?_); (refine Se.toL rfl (Se.ld (o := ⟨some 117, _, _, _, _, _⟩) hs rfl rfl (Cell.blk 4 rfl rfl) (by kernel_rfl) ?_))) | ((with_reducible refine Se.isL (o := ⟨some 15, _, _, _, _, _⟩) ?_); (refine Se.toL rfl (Se.al (o := ⟨some 15, _, _, _, _, _⟩) hs rfl ((show _ = some [Value.int .i64 0] from rfl)) ?_); clear hs; rintro w g15 - hs)) | ((with_reducible refine Se.isL (o := ⟨none, Op.store 3 _ _, _, _, _, _⟩) ?_); ((first | refine Se.toL rfl (Se.so 0 (v := .int _ _) hs rfl rfl rfl rfl rfl (by kernel_rfl) (by simp) ?_) | refine Se.toL rfl (Se.so 0 (v := .bool _) hs rfl rfl rfl rfl rfl (by kernel_rfl) (by simp) ?_) | refine Se.toL rfl (Se.so 0 (v := .slice _ _ _) hs rfl rfl rfl rfl rfl (by kernel_rfl) (by simp) ?_) | refine Se.toL rfl (Se.so 0 (v := .pointer _) hs rfl rfl rfl rfl rfl (by kernel_rfl) (by simp) ?_) | refine Se.toL rfl (Se.so 0 (v := .string _) hs rfl rfl rfl rfl rfl (by kernel_rfl) (by simp) ?_) | refine Se.toL rfl (Se.so 0 (v := .map _) hs rfl rfl rfl rfl rfl (by kernel_rfl) (by simp) ?_) | refine Se.toL rfl (Se.so 0 (v := .func _ _ _) hs rfl rfl rfl rfl rfl (by kernel_rfl) (by simp) ?_) | refine Se.toL rfl (Se.so 0 (v := .nilFunc) hs rfl rfl rfl rfl rfl (by kernel_rfl) (by simp) ?_)); clear hs; intro w hs; try simp only [List.set_cons_zero] at hs)) | (go_at_call 21; refine Calls.mono (pick_st' hs.u21 HP.out.1 g H1.out) ?_; clear hs; rintro e w ⟨rfl, hs⟩))
          go_wp2_with (first | ((with_reducible refine Se.isL (o := ⟨none, Op.store 4 _ _, _, _, _, _⟩) ?_); ((first | refine Se.toL rfl (Se.so 4 (v := .int _ _) hs rfl rfl rfl rfl rfl (by kernel_rfl) (by simp) ?_) | refine Se.toL rfl (Se.so 4 (v := .bool _) hs rfl rfl rfl rfl rfl (by kernel_rfl) (by simp) ?_) | refine Se.toL rfl (Se.so 4 (v := .slice _ _ _) hs rfl rfl rfl rfl rfl (by kernel_rfl) (by simp) ?_) | refine Se.toL rfl (Se.so 4 (v := .pointer _) hs rfl rfl rfl rfl rfl (by kernel_rfl) (by simp) ?_) | refine Se.toL rfl (Se.so 4 (v := .string _) hs rfl rfl rfl rfl rfl (by kernel_rfl) (by simp) ?_) | refine Se.toL rfl (Se.so 4 (v := .map _) hs rfl rfl rfl rfl rfl (by kernel_rfl) (by simp) ?_) | refine Se.toL rfl (Se.so 4 (v := .func _ _ _) hs rfl rfl rfl rfl rfl (by kernel_rfl) (by simp) ?_) | refine Se.toL rfl (Se.so 4 (v := .nilFunc) hs rfl rfl rfl rfl rfl (by kernel_rfl) (by simp) ?_)); clear hs; intro w hs; try simp only [List.set_cons_zero, List.set_cons_succ] at hs)) | (go_at_call 13; refine Calls.mono (num_st hs _) ?_; clear hs; rintro e w ⟨rfl, hs⟩) | (go_at_call 11; refine Calls.mono (works_st hs) ?_; clear hs; rintro e w ⟨rfl, hs⟩))
          refine Se.leave0 (Se.results_cell1 hs rfl rfl (Cell.blk 4 rfl rfl) (by kernel_rfl)) ⟨rfl, ?_⟩
          exact hs.drop.drop.drop.drop.drop.drop
  · rcases key with h1 | ⟨h1, h2⟩ | ⟨h1, h2, h3⟩ | ⟨h1, h2, h3, h4⟩ | ⟨h1, h2, h3, h4, h5⟩ | ⟨h1, h2, h3, h4, h5, h6⟩ | ⟨h1, h2, h3, h4, h5, h6, h7⟩ | ⟨h1, h2, h3, h4, h5, h6, h7, h8⟩
    all_goals
      refine Se.enterM Try.func5 rfl ?_
      simp only [Try.ntmps5, List.size_toArray, List.length_cons, List.length_nil, Nat.reduceAdd, Nat.reduceSub, Array.replicate_succ, Array.replicate_zero, List.push_toArray, List.append_toArray, List.nil_append, List.cons_append]
      go_wp2_with (first | ((with_reducible refine Se.isL (o := ⟨some 10, _, _, _, _, _⟩) ?_); (refine Se.toL rfl (Se.al (o := ⟨some 10, _, _, _, _, _⟩) hs rfl ((show _ = some [Value.bool false] from rfl)) ?_); clear hs; rintro w g10 - hs)) | ((with_reducible refine Se.isL (o := ⟨some 52, _, _, _, _, _⟩) ?_); (refine Se.toL rfl (Se.ld (o := ⟨some 52, _, _, _, _, _⟩) hs rfl rfl (Cell.blk 1 rfl rfl) (by kernel_rfl) ?_))) | ((with_reducible refine Se.isL (o := ⟨some 56, _, _, _, _, _⟩) ?_); (refine Se.toL rfl (Se.ld (o := ⟨some 56, _, _, _, _, _⟩) hs rfl rfl (Cell.blk 1 rfl rfl) (by kernel_rfl) ?_))) | ((with_reducible refine Se.isL (o := ⟨none, Op.store 4 _ _, _, _, _, _⟩) ?_); ((first | refine Se.toL rfl (Se.so 0 (v := .int _ _) hs rfl rfl rfl rfl rfl (by kernel_rfl) (by simp) ?_) | refine Se.toL rfl (Se.so 0 (v := .bool _) hs rfl rfl rfl rfl rfl (by kernel_rfl) (by simp) ?_) | refine Se.toL rfl (Se.so 0 (v := .slice _ _ _) hs rfl rfl rfl rfl rfl (by kernel_rfl) (by simp) ?_) | refine Se.toL rfl (Se.so 0 (v := .pointer _) hs rfl rfl rfl rfl rfl (by kernel_rfl) (by simp) ?_) | refine Se.toL rfl (Se.so 0 (v := .string _) hs rfl rfl rfl rfl rfl (by kernel_rfl) (by simp) ?_) | refine Se.toL rfl (Se.so 0 (v := .map _) hs rfl rfl rfl rfl rfl (by kernel_rfl) (by simp) ?_) | refine Se.toL rfl (Se.so 0 (v := .func _ _ _) hs rfl rfl rfl rfl rfl (by kernel_rfl) (by simp) ?_) | refine Se.toL rfl (Se.so 0 (v := .nilFunc) hs rfl rfl rfl rfl rfl (by kernel_rfl) (by simp) ?_)); clear hs; intro w hs; try simp only [List.set_cons_zero] at hs)) | ((first | with_reducible refine Se.ab hs ?_ | with_reducible refine Se.abc hs ?_); clear hs; (first | (generalize w.heap.size = g8; intro w hs))) | (go_at_call 11; refine Calls.mono (works_st hs) ?_; clear hs; rintro e w ⟨rfl, hs⟩))
      refine Se.leave0 (Se.results_cell1 hs rfl rfl (Cell.blk 0 rfl rfl) (by kernel_rfl)) ⟨rfl, ?_⟩
      exact hs.drop.drop
theorem holds_any {W : World} {B E : Option Addr} {m k cb ce : Nat} {l : List AA} {sl : List Sta} (n t g : Int) (hm : m = l.length) (hr : Li.Rd W B (l.flatMap ac)) (hk : k = sl.length) (hr2 : Li.Rd W E (sl.flatMap sc)) :
    Calls Try.prog 5 #[.int .i64 n, .int .i64 t, .slice B m cb, .int .i64 g, .slice E k ce] W fun e w' => e = .returned (.bool true) ∧ Below W.heap.size W w' := by
  subst hm hk
  exact (holds_st (w0 := W) (X := []) (L := [.rd B (l.flatMap ac), .rd E (sl.flatMap sc)]) l sl (St.start W (fun a ha => by
    rcases List.mem_cons.1 ha with rfl | ha
    · exact hr
    · obtain rfl := List.mem_singleton.1 ha; exact hr2) rfl) (by simp) (by simp) n t g).mono fun _ _ ⟨h1, h2⟩ => ⟨h1, h2.below⟩
end Pa
end Go.Proofs.Ytplhelhijjmlaaa

/- Layer 45: Connect, Disconnect, Submit, Done, Len. -/
import Derived.Test.YtplhelhijjmlaaaPathM2
namespace Go.Proofs.Ytplhelhijjmlaaa
open Go Go.RowKit
namespace Pa
open Se (St At Reads Cell)
variable {w0 w : World} {X : List Nat} {L : List At} {D g off c : Nat} {p : PP}
set_option maxRecDepth 100000 in
theorem connect_st (hs : St w0 X (pD D (some ⟨g, off, none⟩) c p :: pG g off c p :: L) w) (hp : OkP p) (i : Int) :
    Calls Try.prog 19 #[.pointer (some ⟨D, 0, none⟩), .int .i64 i] w fun e w' => e = .returned (.int .i64 (turn p i true).2.2) ∧ St w0 X (pD D (some ⟨g, off, none⟩) c (turn p i true).1 :: pG g off c (turn p i true).1 :: L) w' := by
  have HP := Lib.hid hp
  clear hp
  obtain ⟨q, n, e0, hq⟩ : ∃ q n e0, turn p i true = (q, n, e0) := ⟨_, _, _, rfl⟩
  rw [hq]
  have HQ := Lib.hid (show ∀ (w : World), St w0 X (pD D (some ⟨g, off, none⟩) c p :: pG g off c p :: L) w → Calls Try.prog 37 #[.pointer (some ⟨D, 0, none⟩), .int .i64 i, .bool true] w fun e w' => e = .returned (.tuple #[.int .i64 n, .int .i64 e0]) ∧ St w0 X (pD D (some ⟨g, off, none⟩) c q :: pG g off c q :: L) w' from fun w h => by simpa only [hq] using turn_st h HP.out i true)
  clear hq
  go_enter Try.func19, Try.ntmps19
  go_wp2_with (first | (go_at_call 37; refine Calls.mono (HQ.out _ hs) ?_; clear hs; rintro e w ⟨rfl, hs⟩))
  go_ret
  exact ⟨rfl, hs⟩
set_option maxRecDepth 100000 in
theorem disconnect_st (hs : St w0 X (pD D (some ⟨g, off, none⟩) c p :: pG g off c p :: L) w) (hp : OkP p) (i : Int) :
    Calls Try.prog 20 #[.pointer (some ⟨D, 0, none⟩), .int .i64 i] w fun e w' => e = .returned (.tuple #[.int .i64 (turn p i false).2.1, .int .i64 (turn p i false).2.2]) ∧ St w0 X (pD D (some ⟨g, off, none⟩) c (turn p i false).1 :: pG g off c (turn p i false).1 :: L) w' := by
  have HP := Lib.hid hp
  clear hp
  obtain ⟨q, n, e0, hq⟩ : ∃ q n e0, turn p i false = (q, n, e0) := ⟨_, _, _, rfl⟩
  rw [hq]
  have HQ := Lib.hid (show ∀ (w : World), St w0 X (pD D (some ⟨g, off, none⟩) c p :: pG g off c p :: L) w → Calls Try.prog 37 #[.pointer (some ⟨D, 0, none⟩), .int .i64 i, .bool false] w fun e w' => e = .returned (.tuple #[.int .i64 n, .int .i64 e0]) ∧ St w0 X (pD D (some ⟨g, off, none⟩) c q :: pG g off c q :: L) w' from fun w h => by simpa only [hq] using turn_st h HP.out i false)
  clear hq
  go_enter Try.func20, Try.ntmps20
  go_wp2_with (first | (go_at_call 37; refine Calls.mono (HQ.out _ hs) ?_; clear hs; rintro e w ⟨rfl, hs⟩))
  go_ret2
  exact ⟨rfl, hs⟩
set_option maxRecDepth 100000 in
theorem len_st (hs : St w0 X (pD D (some ⟨g, off, none⟩) c p :: pG g off c p :: L) w) (hp : OkP p) :
    Calls Try.prog 29 #[.pointer (some ⟨D, 0, none⟩)] w fun e w' => e = .returned (.int .i64 p.l.length) ∧ St w0 X (pD D (some ⟨g, off, none⟩) c p :: pG g off c p :: L) w' := by
  have HP := Lib.hid hp
  clear hp
  go_enter Try.func29, Try.ntmps29
  go_wp2_with (first | ((with_reducible refine Se.isL (o := ⟨some 8, _, _, _, _, _⟩) ?_); (refine Se.toL rfl (Se.ld (o := ⟨some 8, _, _, _, _, _⟩) hs rfl rfl (Cell.blk 0 rfl rfl) (by kernel_rfl) ?_))) | (go_at_call 53; refine Calls.mono (none_st hs HP.out) ?_; clear hs; rintro e w ⟨rfl, hs⟩))
  go_ret
  exact ⟨rfl, hs⟩
set_option maxRecDepth 100000 in
set_option maxHeartbeats 1000000 in
theorem submit_st (hs : St w0 X (pD D (some ⟨g, off, none⟩) c p :: pG g off c p :: L) w) (hp : OkP p) (i n : Int) :
    Calls Try.prog 14 #[.pointer (some ⟨D, 0, none⟩), .int .i64 i, .int .i64 n] w fun e w' => e = .returned (.int .i64 (submit p i n).2) ∧ St w0 X (pD D (some ⟨g, off, none⟩) c (submit p i n).1 :: pG g off c (submit p i n).1 :: L) w' := by
  have HP := Lib.hid hp
  clear hp
  obtain ⟨y, hy⟩ : ∃ y, y = at' p i (byt n) := ⟨_, rfl⟩
  have HY := Lib.hid hy
  by_cases hz : y = 0
  · have hri := (at_ok (hy.symm.trans hz)).2
    obtain ⟨hn1, hn2⟩ : 0 ≤ n ∧ n ≤ 1099511627776 := by have := (at_ok (hy.symm.trans hz)).1; unfold byt maxB at this; simp only [Bool.and_eq_true, decide_eq_true_eq] at this; exact this
    obtain ⟨b, hb⟩ : ∃ b, b = (get p i).on := ⟨_, rfl⟩
    obtain ⟨m, hm⟩ : ∃ m, m = (get p i).b := ⟨_, rfl⟩
    obtain ⟨hm1, hm2⟩ : 0 ≤ m ∧ m ≤ 1099511627776 := by have := HP.out.get hri; rw [hm]; exact ⟨this.1, this.2.1⟩
    have HZ := Lib.hid hz
    have HRI := Lib.hid hri
    have HON := Lib.hid (show ∀ (L : List At) (k : Nat), L[k]? = some (pG g off c p) → Cell L g (off + i.toNat * 131) (.bool b) from fun _ _ h => hb ▸ c_on HP.out hri h)
    have HB := Lib.hid (show ∀ (L : List At) (k : Nat), L[k]? = some (pG g off c p) → Cell L g (off + i.toNat * 131 + 1) (.int .i64 m) from fun _ _ h => hm ▸ c_b HP.out hri h)
    have hs0 : submit p i n = if b = false then (p, 8) else if maxB < m + n then (p, 7) else (put p i { get p i with b := m + n }, 0) := by
      unfold submit; dsimp only; rw [← hy, if_neg (by simpa using hz), hb, hm]
    cases b with
    | false =>
      have hf := Lib.hid (show submit p i n = (p, 8) by rw [hs0]; rfl)
      clear hri hb hy hz hs0 hm
      go_enter Try.func14, Try.ntmps14
      go_wp2_with (first | ((with_reducible refine Se.isL (o := ⟨some 26, _, _, _, _, _⟩) ?_); (refine Se.toL rfl (Se.ld (o := ⟨some 26, _, _, _, _, _⟩) hs rfl rfl (HON.out _ 1 rfl) (by kernel_rfl) ?_))) | (go_at_call 35; refine Calls.mono (bytes_st hs n) ?_; clear hs; rintro e w ⟨rfl, hs⟩) | (go_at_call 34; refine Calls.mono (at_ok_st hs HP.out i _ (HY.out.symm.trans HZ.out)) ?_; clear hs; rintro e w ⟨rfl, hs⟩))
      go_ret
      rw [hf.out]
      exact ⟨rfl, hs⟩
    | true =>
      by_cases hc : maxB < m + n
      · have hf := Lib.hid (show submit p i n = (p, 7) by rw [hs0, if_neg (by simp), if_pos hc])
        have hc' : 1099511627776 < m + n := hc
        clear hri hb hy hz hs0 hm hc
        go_enter Try.func14, Try.ntmps14
        go_wp2_with (first | ((with_reducible refine Se.isL (o := ⟨some 26, _, _, _, _, _⟩) ?_); (refine Se.toL rfl (Se.ld (o := ⟨some 26, _, _, _, _, _⟩) hs rfl rfl (HON.out _ 1 rfl) (by kernel_rfl) ?_))) | ((with_reducible refine Se.isL (o := ⟨some 33, _, _, _, _, _⟩) ?_); (refine Se.toL rfl (Se.ld (o := ⟨some 33, _, _, _, _, _⟩) hs rfl rfl (HB.out _ 1 rfl) (by kernel_rfl) ?_))) | (go_at_call 35; refine Calls.mono (bytes_st hs n) ?_; clear hs; rintro e w ⟨rfl, hs⟩) | (go_at_call 34; refine Calls.mono (at_ok_st hs HP.out i _ (HY.out.symm.trans HZ.out)) ?_; clear hs; rintro e w ⟨rfl, hs⟩))
        go_ret
        rw [hf.out]
        exact ⟨rfl, hs⟩
      · have hf := Lib.hid (show submit p i n = (put p i { get p i with b := m + n }, 0) by rw [hs0, if_neg (by simp), if_neg hc])
        have hc' : m + n ≤ 1099511627776 := by unfold maxB at hc; omega
        clear hri hb hy hz hs0 hm hc
        go_enter Try.func14, Try.ntmps14
        go_wp2_with (first | ((with_reducible refine Se.isL (o := ⟨some 26, _, _, _, _, _⟩) ?_); (refine Se.toL rfl (Se.ld (o := ⟨some 26, _, _, _, _, _⟩) hs rfl rfl (HON.out _ 1 rfl) (by kernel_rfl) ?_))) | ((with_reducible refine Se.isL (o := ⟨some 33, _, _, _, _, _⟩) ?_); (refine Se.toL rfl (Se.ld (o := ⟨some 33, _, _, _, _, _⟩) hs rfl rfl (HB.out _ 1 rfl) (by kernel_rfl) ?_))) | ((with_reducible refine Se.isL (o := ⟨some 41, _, _, _, _, _⟩) ?_); (refine Se.toL rfl (Se.ld (o := ⟨some 41, _, _, _, _, _⟩) hs rfl rfl (HB.out _ 1 rfl) (by kernel_rfl) ?_))) | ((with_reducible refine Se.isL (o := ⟨none, _, _, _, _, _⟩) ?_); ((first | refine Se.toL rfl (Se.sooe 1 (v := .int _ _) hs rfl rfl rfl rfl rfl (by kernel_rfl) ((Nat.add_assoc _ _ _)) ((by rw [cells_len HP.out]; have := rng_lt HRI.out; omega)) ((set_b HP.out HRI.out _)) ?_) | refine Se.toL rfl (Se.sooe 1 (v := .bool _) hs rfl rfl rfl rfl rfl (by kernel_rfl) ((Nat.add_assoc _ _ _)) ((by rw [cells_len HP.out]; have := rng_lt HRI.out; omega)) ((set_b HP.out HRI.out _)) ?_) | refine Se.toL rfl (Se.sooe 1 (v := .slice _ _ _) hs rfl rfl rfl rfl rfl (by kernel_rfl) ((Nat.add_assoc _ _ _)) ((by rw [cells_len HP.out]; have := rng_lt HRI.out; omega)) ((set_b HP.out HRI.out _)) ?_) | refine Se.toL rfl (Se.sooe 1 (v := .pointer _) hs rfl rfl rfl rfl rfl (by kernel_rfl) ((Nat.add_assoc _ _ _)) ((by rw [cells_len HP.out]; have := rng_lt HRI.out; omega)) ((set_b HP.out HRI.out _)) ?_) | refine Se.toL rfl (Se.sooe 1 (v := .string _) hs rfl rfl rfl rfl rfl (by kernel_rfl) ((Nat.add_assoc _ _ _)) ((by rw [cells_len HP.out]; have := rng_lt HRI.out; omega)) ((set_b HP.out HRI.out _)) ?_) | refine Se.toL rfl (Se.sooe 1 (v := .map _) hs rfl rfl rfl rfl rfl (by kernel_rfl) ((Nat.add_assoc _ _ _)) ((by rw [cells_len HP.out]; have := rng_lt HRI.out; omega)) ((set_b HP.out HRI.out _)) ?_) | refine Se.toL rfl (Se.sooe 1 (v := .func _ _ _) hs rfl rfl rfl rfl rfl (by kernel_rfl) ((Nat.add_assoc _ _ _)) ((by rw [cells_len HP.out]; have := rng_lt HRI.out; omega)) ((set_b HP.out HRI.out _)) ?_) | refine Se.toL rfl (Se.sooe 1 (v := .nilFunc) hs rfl rfl rfl rfl rfl (by kernel_rfl) ((Nat.add_assoc _ _ _)) ((by rw [cells_len HP.out]; have := rng_lt HRI.out; omega)) ((set_b HP.out HRI.out _)) ?_)); clear hs; intro w hs; try simp only [List.set_cons_zero, List.set_cons_succ] at hs)) | (go_at_call 35; refine Calls.mono (bytes_st hs n) ?_; clear hs; rintro e w ⟨rfl, hs⟩) | (go_at_call 34; refine Calls.mono (at_ok_st hs HP.out i _ (HY.out.symm.trans HZ.out)) ?_; clear hs; rintro e w ⟨rfl, hs⟩))
        go_ret
        rw [hf.out, pD_put, pG_put]
        exact ⟨rfl, hs⟩
  · have hf := Lib.hid (show submit p i n = (p, y) by unfold submit; dsimp only; rw [← hy, if_pos hz])
    have hz' : (y == 0) = false := by simpa using hz
    have hz'' : (!decide (y = 0)) = true := by simpa using hz
    have HZ := Lib.hid hz
    clear hy hz
    go_enter Try.func14, Try.ntmps14
    go_wp2_with (first | (go_at_call 35; refine Calls.mono (bytes_st hs n) ?_; clear hs; rintro e w ⟨rfl, hs⟩) | (go_at_call 34; refine Calls.mono (at_no_st hs HP.out i _ y HY.out.symm HZ.out) ?_; clear hs; rintro e w ⟨rfl, hs⟩))
    go_ret
    rw [hf.out]
    exact ⟨rfl, hs⟩
set_option maxRecDepth 100000 in
set_option maxHeartbeats 1000000 in
theorem done_st (hs : St w0 X (pD D (some ⟨g, off, none⟩) c p :: pG g off c p :: L) w) (hp : OkP p) (i n : Int) :
    Calls Try.prog 18 #[.pointer (some ⟨D, 0, none⟩), .int .i64 i, .int .i64 n] w fun e w' => e = .returned (.int .i64 (done p i n).2) ∧ St w0 X (pD D (some ⟨g, off, none⟩) c (done p i n).1 :: pG g off c (done p i n).1 :: L) w' := by
  have HP := Lib.hid hp
  clear hp
  obtain ⟨y, hy⟩ : ∃ y, y = at' p i (byt n) := ⟨_, rfl⟩
  have HY := Lib.hid hy
  by_cases hz : y = 0
  · have hri := (at_ok (hy.symm.trans hz)).2
    obtain ⟨hn1, hn2⟩ : 0 ≤ n ∧ n ≤ 1099511627776 := by have := (at_ok (hy.symm.trans hz)).1; unfold byt maxB at this; simp only [Bool.and_eq_true, decide_eq_true_eq] at this; exact this
    obtain ⟨b, hb⟩ : ∃ b, b = (get p i).on := ⟨_, rfl⟩
    obtain ⟨m, hm⟩ : ∃ m, m = (get p i).b := ⟨_, rfl⟩
    obtain ⟨hm1, hm2⟩ : 0 ≤ m ∧ m ≤ 1099511627776 := by have := HP.out.get hri; rw [hm]; exact ⟨this.1, this.2.1⟩
    have HZ := Lib.hid hz
    have HRI := Lib.hid hri
    have HON := Lib.hid (show ∀ (L : List At) (k : Nat), L[k]? = some (pG g off c p) → Cell L g (off + i.toNat * 131) (.bool b) from fun _ _ h => hb ▸ c_on HP.out hri h)
    have HB := Lib.hid (show ∀ (L : List At) (k : Nat), L[k]? = some (pG g off c p) → Cell L g (off + i.toNat * 131 + 1) (.int .i64 m) from fun _ _ h => hm ▸ c_b HP.out hri h)
    have hs0 : done p i n = if m < n then (p, 3) else if b = false then (p, 8) else (put p i { get p i with b := m - n }, 0) := by
      unfold done; dsimp only; rw [← hy, if_neg (by simpa using hz), hb, hm]
    by_cases hc : m < n
    · have hf := Lib.hid (show done p i n = (p, 3) by rw [hs0, if_pos hc])
      clear hri hb hy hz hs0 hm
      go_enter Try.func18, Try.ntmps18
      go_wp2_with (first | ((with_reducible refine Se.isL (o := ⟨some 27, _, _, _, _, _⟩) ?_); (refine Se.toL rfl (Se.ld (o := ⟨some 27, _, _, _, _, _⟩) hs rfl rfl (HB.out _ 1 rfl) (by kernel_rfl) ?_))) | (go_at_call 35; refine Calls.mono (bytes_st hs n) ?_; clear hs; rintro e w ⟨rfl, hs⟩) | (go_at_call 34; refine Calls.mono (at_ok_st hs HP.out i _ (HY.out.symm.trans HZ.out)) ?_; clear hs; rintro e w ⟨rfl, hs⟩))
      go_ret
      rw [hf.out]
      exact ⟨rfl, hs⟩
    · cases b with
      | false =>
        have hf := Lib.hid (show done p i n = (p, 8) by rw [hs0, if_neg hc]; rfl)
        have hc' : n ≤ m := by omega
        clear hri hb hy hz hs0 hm hc
        go_enter Try.func18, Try.ntmps18
        go_wp2_with (first | ((with_reducible refine Se.isL (o := ⟨some 27, _, _, _, _, _⟩) ?_); (refine Se.toL rfl (Se.ld (o := ⟨some 27, _, _, _, _, _⟩) hs rfl rfl (HB.out _ 1 rfl) (by kernel_rfl) ?_))) | ((with_reducible refine Se.isL (o := ⟨some 34, _, _, _, _, _⟩) ?_); (refine Se.toL rfl (Se.ld (o := ⟨some 34, _, _, _, _, _⟩) hs rfl rfl (HON.out _ 1 rfl) (by kernel_rfl) ?_))) | (go_at_call 35; refine Calls.mono (bytes_st hs n) ?_; clear hs; rintro e w ⟨rfl, hs⟩) | (go_at_call 34; refine Calls.mono (at_ok_st hs HP.out i _ (HY.out.symm.trans HZ.out)) ?_; clear hs; rintro e w ⟨rfl, hs⟩))
        go_ret
        rw [hf.out]
        exact ⟨rfl, hs⟩
      | true =>
        have hf := Lib.hid (show done p i n = (put p i { get p i with b := m - n }, 0) by rw [hs0, if_neg hc, if_neg (by simp)])
        have hc' : n ≤ m := by omega
        have hc'' : 0 ≤ m - n := by omega
        clear hri hb hy hz hs0 hm hc
        go_enter Try.func18, Try.ntmps18
        go_wp2_with (first | ((with_reducible refine Se.isL (o := ⟨some 27, _, _, _, _, _⟩) ?_); (refine Se.toL rfl (Se.ld (o := ⟨some 27, _, _, _, _, _⟩) hs rfl rfl (HB.out _ 1 rfl) (by kernel_rfl) ?_))) | ((with_reducible refine Se.isL (o := ⟨some 34, _, _, _, _, _⟩) ?_); (refine Se.toL rfl (Se.ld (o := ⟨some 34, _, _, _, _, _⟩) hs rfl rfl (HON.out _ 1 rfl) (by kernel_rfl) ?_))) | ((with_reducible refine Se.isL (o := ⟨some 40, _, _, _, _, _⟩) ?_); (refine Se.toL rfl (Se.ld (o := ⟨some 40, _, _, _, _, _⟩) hs rfl rfl (HB.out _ 1 rfl) (by kernel_rfl) ?_))) | ((with_reducible refine Se.isL (o := ⟨none, _, _, _, _, _⟩) ?_); ((first | refine Se.toL rfl (Se.sooe 1 (v := .int _ _) hs rfl rfl rfl rfl rfl (by kernel_rfl) ((Nat.add_assoc _ _ _)) ((by rw [cells_len HP.out]; have := rng_lt HRI.out; omega)) ((set_b HP.out HRI.out _)) ?_) | refine Se.toL rfl (Se.sooe 1 (v := .bool _) hs rfl rfl rfl rfl rfl (by kernel_rfl) ((Nat.add_assoc _ _ _)) ((by rw [cells_len HP.out]; have := rng_lt HRI.out; omega)) ((set_b HP.out HRI.out _)) ?_) | refine Se.toL rfl (Se.sooe 1 (v := .slice _ _ _) hs rfl rfl rfl rfl rfl (by kernel_rfl) ((Nat.add_assoc _ _ _)) ((by rw [cells_len HP.out]; have := rng_lt HRI.out; omega)) ((set_b HP.out HRI.out _)) ?_) | refine Se.toL rfl (Se.sooe 1 (v := .pointer _) hs rfl rfl rfl rfl rfl (by kernel_rfl) ((Nat.add_assoc _ _ _)) ((by rw [cells_len HP.out]; have := rng_lt HRI.out; omega)) ((set_b HP.out HRI.out _)) ?_) | refine Se.toL rfl (Se.sooe 1 (v := .string _) hs rfl rfl rfl rfl rfl (by kernel_rfl) ((Nat.add_assoc _ _ _)) ((by rw [cells_len HP.out]; have := rng_lt HRI.out; omega)) ((set_b HP.out HRI.out _)) ?_) | refine Se.toL rfl (Se.sooe 1 (v := .map _) hs rfl rfl rfl rfl rfl (by kernel_rfl) ((Nat.add_assoc _ _ _)) ((by rw [cells_len HP.out]; have := rng_lt HRI.out; omega)) ((set_b HP.out HRI.out _)) ?_) | refine Se.toL rfl (Se.sooe 1 (v := .func _ _ _) hs rfl rfl rfl rfl rfl (by kernel_rfl) ((Nat.add_assoc _ _ _)) ((by rw [cells_len HP.out]; have := rng_lt HRI.out; omega)) ((set_b HP.out HRI.out _)) ?_) | refine Se.toL rfl (Se.sooe 1 (v := .nilFunc) hs rfl rfl rfl rfl rfl (by kernel_rfl) ((Nat.add_assoc _ _ _)) ((by rw [cells_len HP.out]; have := rng_lt HRI.out; omega)) ((set_b HP.out HRI.out _)) ?_)); clear hs; intro w hs; try simp only [List.set_cons_zero, List.set_cons_succ] at hs)) | (go_at_call 35; refine Calls.mono (bytes_st hs n) ?_; clear hs; rintro e w ⟨rfl, hs⟩) | (go_at_call 34; refine Calls.mono (at_ok_st hs HP.out i _ (HY.out.symm.trans HZ.out)) ?_; clear hs; rintro e w ⟨rfl, hs⟩))
        go_ret
        rw [hf.out, pD_put, pG_put]
        exact ⟨rfl, hs⟩
  · have hf := Lib.hid (show done p i n = (p, y) by unfold done; dsimp only; rw [← hy, if_pos hz])
    have hz' : (y == 0) = false := by simpa using hz
    have hz'' : (!decide (y = 0)) = true := by simpa using hz
    have HZ := Lib.hid hz
    clear hy hz
    go_enter Try.func18, Try.ntmps18
    go_wp2_with (first | (go_at_call 35; refine Calls.mono (bytes_st hs n) ?_; clear hs; rintro e w ⟨rfl, hs⟩) | (go_at_call 34; refine Calls.mono (at_no_st hs HP.out i _ y HY.out.symm HZ.out) ?_; clear hs; rintro e w ⟨rfl, hs⟩))
    go_ret
    rw [hf.out]
    exact ⟨rfl, hs⟩
end Pa
end Go.Proofs.Ytplhelhijjmlaaa

/- slices.Equal, IndexFunc, ContainsFunc; are all bytes zero? No condition but Go's own limits. -/
import Derived.Test.YtgpbmohfgjmpkaaPduSl2
set_option linter.unusedSimpArgs false
set_option linter.unusedVariables false
namespace Go.Proofs.Ytgpbmohfgjmpkaa
open Go Go.RowKit
namespace Pd
open Se (St At Reads Cell)
open Li (v8 v8_one Rd)
open Bv (n8 n16 n32 n64)
variable {w0 w : World} {X : List Nat} {L : List At}
attribute [local irreducible] Calls
theorem take_eq_succ {xs ys : List (BitVec 8)} {i : Nat} (hx : i < xs.length) (hy : i < ys.length) (h : xs.take i = ys.take i) (e : xs[i] = ys[i]) : xs.take (i + 1) = ys.take (i + 1) := by
  rw [List.take_succ_eq_append_getElem hx, List.take_succ_eq_append_getElem hy, h, e]
set_option maxRecDepth 100000 in
set_option maxHeartbeats 4000000 in
theorem equal_st (hs : St w0 X L w) {xs ys : List (BitVec 8)} {A B : Option Addr} {n m c d : Nat} (hn : n = xs.length) (hm : m = ys.length) (hA : Reads L A (xs.map v8)) (hB : Reads L B (ys.map v8)) (hle : n ≤ 70368744177664) {b : Bool} (hb : (xs == ys) = b) :
    Calls Try.prog 49 #[.slice A n c, .slice B m d] w fun e w' => e = .returned (.bool b) ∧ St w0 X L w' := by
  have HN := Lib.hid hn
  have HM := Lib.hid hm
  have HA := Lib.hid hA
  have HB := Lib.hid hB
  have HE := Lib.hid hb
  by_cases hnm : n = m
  · subst hnm
    have hne : ((n : Int) != (n : Int)) = false := by simp
    clear hn hm hA hB hb
    go_enter Try.func49, Try.ntmps49
    go_wp2_with fail
    go_loopg [13] n (fun gh s13 wr => ∃ i : Nat, gh = n - i ∧ i ≤ n ∧ s13 = .int .i64 i ∧ Hid (xs.take i = ys.take i) ∧ St w0 X L wr)
    case atStart => exact ⟨0, rfl, by omega, rfl, Lib.hid (by simp), hs⟩
    case round =>
      clear hs
      rename World => w
      obtain ⟨i, rfl, hi, rfl, HT, hs⟩ := hrel
      by_cases hlt : i < n
      · have hlt' : (i : Int) < (n : Int) := by omega
        have hx : i < xs.length := by have := HN.out; omega
        have hy : i < ys.length := by have := HM.out; omega
        obtain ⟨ga, oa, rfl, hca⟩ := Rd_cell (HA.out w hs.hold) i (v8_at xs i hx)
        obtain ⟨gb, ob, rfl, hcb⟩ := Rd_cell (HB.out w hs.hold) i (v8_at ys i hy)
        obtain ⟨x, hxe⟩ : ∃ x, x = xs.getD i 0#8 := ⟨_, rfl⟩
        obtain ⟨y, hye⟩ : ∃ y, y = ys.getD i 0#8 := ⟨_, rfl⟩
        rw [← hxe] at hca
        rw [← hye] at hcb
        have ex : xs[i] = x := by rw [hxe]; simp [hx]
        have ey : ys[i] = y := by rw [hye]; simp [hy]
        by_cases hxy : x = y
        · subst hxy
          have hv : (n8 x != n8 x) = false := by simp
          have HT2 := Lib.hid (take_eq_succ hx hy HT.out (ex.trans ey.symm))
          clear hx hy ex ey hxe hye
          go_wp2_with fail
          go_quiet (fail)
          replace hs := hs.drewN nq
          generalize w.drewN nq = w at hs ⊢
          go_wp2_with fail
          go_roundg (n - (i + 1))
          case measure => omega
          case rel => exact ⟨i + 1, rfl, by omega, by go_num, HT2, hs⟩
        · have hv : (n8 x != n8 y) = true := by simp [Bv.n8_eq_iff, hxy]
          have hE2 : b = false := by
            rw [← HE.out]
            apply beq_eq_false_iff_ne.2
            intro e; subst e
            exact hxy (ex.symm.trans ey)
          clear hx hy ex ey hxe hye hxy
          subst hE2
          go_wp2_with fail
          go_quiet (fail)
          replace hs := hs.drewN nq
          generalize w.drewN nq = w at hs ⊢
          go_wp2_with fail
          go_ret
          exact ⟨rfl, hs⟩
      · obtain rfl : i = n := by omega
        have hE2 : b = true := by
          rw [← HE.out]
          have := HT.out
          rw [List.take_of_length_le (by rw [← HN.out]; exact Nat.le_refl _), List.take_of_length_le (by rw [← HM.out]; exact Nat.le_refl _)] at this
          rw [this]; simp
        subst hE2
        go_wp2_with fail
        go_ret
        exact ⟨rfl, hs⟩
  · have hne : ((n : Int) != (m : Int)) = true := by simp; omega
    have hE2 : b = false := by
      rw [← hb]
      apply beq_eq_false_iff_ne.2
      intro e; subst e
      exact hnm (hn.trans hm.symm)
    subst hE2
    clear hn hm hA hB hb hnm
    go_enter Try.func49, Try.ntmps49
    go_wp2_with fail
    go_ret
    exact ⟨rfl, hs⟩
set_option maxRecDepth 100000 in
set_option maxHeartbeats 4000000 in
theorem zeros1_any (x : BitVec 8) (w : World) : Calls Try.prog 79 #[.int .u8 (n8 x)] w fun e w' => e = .returned (.bool (n8 x != 0)) ∧ w' = w := by
  go_enter Try.func79, Try.ntmps79
  go_wp2
  go_ret
  exact ⟨rfl, rfl⟩
theorem n8_ne (x : BitVec 8) : (n8 x != 0) = !(x == 0#8) := by
  have := Bv.n8_beq x 0#8
  rw [← this]; rfl
set_option maxRecDepth 100000 in
set_option maxHeartbeats 4000000 in
theorem indexFunc_st (hs : St w0 X L w) {bs : List (BitVec 8)} {A : Option Addr} {n c : Nat} (hn : n = bs.length) (hA : Reads L A (bs.map v8)) (hle : n ≤ 70368744177664) :
    Calls Try.prog 85 #[.slice A n c, .func (.func 79) #[] #[]] w fun e w' => ∃ z : Int, e = .returned (.int .i64 z) ∧ decide (0 ≤ z) = !(zeros bs) ∧ St w0 X L w' := by
  have HN := Lib.hid hn
  have HA := Lib.hid hA
  clear hn hA
  go_enter Try.func85, Try.ntmps85
  go_wp2_with fail
  go_loopg [8] n (fun gh s8 wr => ∃ i : Nat, gh = n - i ∧ i ≤ n ∧ s8 = .int .i64 i ∧ Hid (zeros (bs.take i) = true) ∧ St w0 X L wr)
  case atStart => exact ⟨0, rfl, by omega, rfl, Lib.hid rfl, hs⟩
  case round =>
    clear hs
    rename World => w
    obtain ⟨i, rfl, hi, rfl, HT, hs⟩ := hrel
    by_cases hlt : i < n
    · have hlt' : (i : Int) < (n : Int) := by omega
      have hx : i < bs.length := by have := HN.out; omega
      obtain ⟨ga, oa, rfl, hca⟩ := Rd_cell (HA.out w hs.hold) i (v8_at bs i hx)
      obtain ⟨x, hxe⟩ : ∃ x, x = bs.getD i 0#8 := ⟨_, rfl⟩
      rw [← hxe] at hca
      have ex : bs[i] = x := by rw [hxe]; simp [hx]
      by_cases h0 : x = 0#8
      · have hv : (n8 x != 0) = false := by rw [n8_ne, h0]; rfl
        have HT2 : Hid (zeros (bs.take (i + 1)) = true) := Lib.hid (by rw [List.take_succ_eq_append_getElem hx]; have := HT.out; unfold zeros at this ⊢; rw [List.all_append, this, ex, h0]; rfl)
        clear hx ex hxe h0
        go_wp2_with (first | (go_at_call 79; refine Calls.mono (zeros1_any x _) ?_; rintro e w' ⟨rfl, rfl⟩))
        go_roundg (n - (i + 1))
        case measure => omega
        case rel => exact ⟨i + 1, rfl, by omega, by go_num, HT2, hs⟩
      · have hv : (n8 x != 0) = true := by rw [n8_ne]; simpa using h0
        have HZ : zeros bs = false := by
          unfold zeros
          rw [← Bool.not_eq_true, List.all_eq_true]
          intro h
          have := h bs[i] (List.getElem_mem hx)
          rw [ex] at this
          exact h0 (by simpa using this)
        clear hx ex hxe h0
        go_wp2_with (first | (go_at_call 79; refine Calls.mono (zeros1_any x _) ?_; rintro e w' ⟨rfl, rfl⟩))
        go_ret
        exact ⟨i, rfl, by rw [HZ]; simp, hs⟩
    · obtain rfl : i = n := by omega
      have HZ : zeros bs = true := by have := HT.out; rwa [List.take_of_length_le (by rw [← HN.out]; exact Nat.le_refl _)] at this
      go_wp2_with fail
      go_ret
      exact ⟨-1, rfl, by rw [HZ]; rfl, hs⟩
set_option maxRecDepth 100000 in
set_option maxHeartbeats 4000000 in
theorem containsFunc_st (hs : St w0 X L w) {bs : List (BitVec 8)} {A : Option Addr} {n c : Nat} (hn : n = bs.length) (hA : Reads L A (bs.map v8)) (hle : n ≤ 70368744177664) :
    Calls Try.prog 78 #[.slice A n c, .func (.func 79) #[] #[]] w fun e w' => e = .returned (.bool (!(zeros bs))) ∧ St w0 X L w' := by
  obtain ⟨b, hb⟩ : ∃ b, b = zeros bs := ⟨_, rfl⟩
  have C := Lib.hid (indexFunc_st hs (c := c) hn hA hle)
  rw [← hb] at C ⊢
  clear hn hA hb
  go_enter Try.func78, Try.ntmps78
  go_wp2_with (first | (go_at_call 85; refine Calls.mono (C.out) ?_; clear hs; rintro e w ⟨z, rfl, hz, hs⟩))
  go_ret
  exact ⟨by rw [← hz]; rfl, hs⟩
set_option maxRecDepth 100000 in
set_option maxHeartbeats 4000000 in
theorem zeros_st (hs : St w0 X L w) {bs : List (BitVec 8)} {A : Option Addr} {n c : Nat} (hn : n = bs.length) (hA : Reads L A (bs.map v8)) (hle : n ≤ 70368744177664) {b : Bool} (hb : zeros bs = b) :
    Calls Try.prog 63 #[.slice A n c] w fun e w' => e = .returned (.bool b) ∧ St w0 X L w' := by
  have C := Lib.hid (containsFunc_st hs (c := c) hn hA hle)
  rw [hb] at C
  clear hn hA hb
  go_enter Try.func63, Try.ntmps63
  go_wp2_with (first | (go_at_call 78; refine Calls.mono (C.out) ?_; clear hs; rintro e w ⟨rfl, hs⟩))
  go_ret
  exact ⟨by simp, hs⟩
end Pd
end Go.Proofs.Ytgpbmohfgjmpkaa

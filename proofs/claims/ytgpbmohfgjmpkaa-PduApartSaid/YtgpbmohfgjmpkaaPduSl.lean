/- Numbers as bytes, and the library's functions on slices that layer 35 uses: Grow, Concat, Clone, Equal, ContainsFunc. No condition but Go's own limits. -/
import Derived.Test.YtgpbmohfgjmpkaaPduBase
set_option linter.unusedSimpArgs false
set_option linter.unusedVariables false
namespace Go.Proofs.Ytgpbmohfgjmpkaa
open Go Go.RowKit
namespace Pd
open Se (St At Reads Cell)
open Li (v8 v8_one)
open Bv (n8 n16 n32 n64)
variable {w0 w : World} {X : List Nat} {L : List At}
attribute [local irreducible] Calls
section
attribute [local go_sem] Bv.of_n32 Bv.wrap_n8_of Bv.of8_n32
attribute [local go_sem ↓] Bv.shr_n32
set_option maxRecDepth 100000 in
set_option maxHeartbeats 4000000 in
theorem number_st (hs : St w0 X L w) (v : BitVec 32) (n : Nat) (hn : n ≤ 4) :
    Calls Try.prog 30 #[.int .u32 (n32 v), .int .i64 n] w fun e w' => ∃ r B c, e = .returned (.slice B n c) ∧ St w0 X (.own 1 r B n c ((numL v n).map v8) :: L) w' := by
  replace hs := hs.nil_own 1 none
  go_enter Try.func30, Try.ntmps30
  go_wp2_with fail
  go_loopg [4, 7] n (fun gh s4 s7 wr => ∃ (i : Nat) (r : Option Nat) (B : Option Addr) (c' : Nat), gh = n - i ∧ i ≤ n ∧ s7 = .int .i64 i ∧ s4 = .slice B i c' ∧ St w0 X (.own 1 r B i c' ((numL v i).map v8) :: L) wr)
  case atStart => exact ⟨0, none, none, 0, rfl, by omega, rfl, rfl, hs⟩
  case round =>
    clear hs
    rename World => w
    obtain ⟨i, r, B, c', rfl, hi, rfl, rfl, hs⟩ := hrel
    by_cases hlt : i < n
    · have hlt' : (i : Int) < (n : Int) := by omega
      have h8 : (0 : Int) ≤ 8 * (i : Int) := by omega
      have h8n := Lib.hid (show (8 * (i : Int)).toNat = 8 * i by omega)
      have ST := Lib.hid (show (numL v (i + 1)).map v8 = (numL v i).map v8 ++ [v8 ((v >>> (8 * i)).setWidth 8)] by rw [numL_snoc]; simp)
      go_wp2_with (first | ((with_reducible refine Se.isL (o := ⟨some 16, _, _, _, _, _⟩) ?_); (refine Se.toL rfl (Se.bsv (o := ⟨some 16, _, _, _, _, _⟩) hs rfl Try.underlying23 u8i rfl ([.int .u8 _]) (by rfl) (by rfl) (by decide) (by decide) (by simp [Value.oneCell']) ?_); clear hs; rintro w g16 - hs)) | ((with_reducible refine Se.isL (o := ⟨some 17, _, _, _, _, _⟩) ?_); (refine Se.toL rfl (Se.ap (o := ⟨some 17, _, _, _, _, _⟩) 1 hs rfl rfl rfl rfl ((Reads.blk 0 rfl)) Try.underlying23 u8i3 rfl (by decide) ((by simp [Value.oneCell'])) (rfl) ((by omega)) ((by omega)) ?_); clear hs; rintro w r' B' c'' hs; try simp only [List.set_cons_zero, List.set_cons_succ] at hs)))
      go_roundg (n - (i + 1))
      case measure => omega
      case rel => exact ⟨i + 1, r', B', c'', rfl, by omega, by go_num, rfl, by rw [ST.out, ← h8n.out]; exact hs.drop⟩
    · obtain rfl : i = n := by omega
      go_wp2_with fail
      go_ret
      exact ⟨r, B, c', rfl, hs⟩
end
section
attribute [local go_sem] Bv.of_n32 Bv.wrap_n32_of Bv.of32_n8
attribute [local go_sem ↓] Bv.shl_n32 Bv.or_n32
set_option maxRecDepth 100000 in
set_option maxHeartbeats 4000000 in
theorem value_st (hs : St w0 X L w) (bs : List (BitVec 8)) (n c : Nat) (hn : n = bs.length) (h4 : n ≤ 4) {A : Option Addr} (hr : Reads L A (bs.map v8)) :
    Calls Try.prog 60 #[.slice A n c] w fun e w' => e = .returned (.int .u32 (n32 (w32 bs))) ∧ St w0 X L w' := by
  have HN := Lib.hid hn
  clear hn
  go_enter Try.func60, Try.ntmps60
  go_wp2_with fail
  go_loopg [2, 7] n (fun gh s2 s7 wr => ∃ (i : Nat), gh = n - i ∧ i ≤ n ∧ s7 = .int .i64 i ∧ s2 = .int .u32 (n32 (w32 (bs.take i))) ∧ St w0 X L wr)
  case atStart => exact ⟨0, rfl, by omega, rfl, rfl, hs⟩
  case round =>
    clear hs
    rename World => w
    obtain ⟨i, rfl, hi, rfl, rfl, hs⟩ := hrel
    by_cases hlt : i < n
    · have hlt' : (i : Int) < (n : Int) := by omega
      have h8 : (0 : Int) ≤ 8 * (i : Int) := by omega
      obtain ⟨x, hx⟩ : ∃ x, x = bs.getD i 0#8 := ⟨_, rfl⟩
      have hil : i < bs.length := by have := HN.out; omega
      have hb : (bs.map v8)[i]? = some (v8 x) := by rw [hx]; simp [hil]
      have ST : w32 (bs.take (i + 1)) = w32 (bs.take i) ||| (x.setWidth 32 <<< (8 * i)) := by
        rw [List.take_succ_eq_append_getElem hil, w32_snoc _ _ (by simp; omega), hx]
        congr 2
        · simp [hil]
        · simp; omega
      have HB := Lib.hid hb
      have ST := Lib.hid ST
      clear hb hx hil
      obtain ⟨g, off, rfl⟩ : ∃ g off, A = some ⟨g, off, none⟩ := by
        obtain ⟨g, off, h, _⟩ := (hr w hs.hold).cells (by intro e; have := HB.out; rw [e] at this; simp at this)
        exact ⟨g, off, h⟩
      go_wp2_with (first | ((with_reducible refine Se.isL (o := ⟨some 11, _, _, _, _, _⟩) ?_); (refine Se.toL rfl (Se.ld (o := ⟨some 11, _, _, _, _, _⟩) hs rfl rfl (hr.cell i HB.out) (by kernel_rfl) ?_))))
      go_roundg (n - (i + 1))
      case measure => omega
      case rel => exact ⟨i + 1, rfl, by omega, by go_num, by rw [ST.out], hs⟩
    · obtain rfl : i = n := by omega
      go_wp2_with fail
      go_ret
      rw [List.take_of_length_le (by rw [← HN.out]; exact Nat.le_refl _)]
      exact ⟨rfl, hs⟩
end
theorem eql_nil (A : Option Addr) (n c : Nat) (w : World) : (binOp .eql 23 (.slice A n c) (.slice none 0 0)).run Try.prog w = .ok (.bool A.isNone) w := Lib.run_eql_slice_nil w _ _ A n c 0 0 Try.underlying23
section
attribute [local go_sem] eql_nil
set_option maxRecDepth 100000 in
set_option maxHeartbeats 4000000 in
theorem clone_st (hs : St w0 X L w) {A : Option Addr} {n c : Nat} {bs : List (BitVec 8)} (hr : Reads L A (bs.map v8)) (hn : n = bs.length) (hle : n ≤ 70368744177664) :
    Calls Try.prog 62 #[.slice A n c] w fun e w' => ∃ r B c', e = .returned (.slice B n c') ∧ St w0 X (.own 1 r B n c' (bs.map v8) :: L) w' := by
  cases A with
  | none =>
    have h0 : bs.map v8 = [] := by
      rcases hr w hs.hold with h | ⟨_, _, h, _⟩
      · exact h
      · cases h
    have HN := Lib.hid (show n = 0 by rw [hn]; simpa using h0)
    have H0 := Lib.hid h0
    clear hn h0 hle
    replace hs := hs.nil_own 1 none
    go_enter Try.func62, Try.ntmps62
    go_wp2_with fail
    go_ret
    rw [H0.out, HN.out]
    exact ⟨none, none, 0, rfl, hs⟩
  | some ad =>
    have HN := Lib.hid hn
    clear hn
    go_enter Try.func62, Try.ntmps62
    go_wp2_with (first | ((with_reducible refine Se.isL (o := ⟨some 5, _, _, _, _, _⟩) ?_); (refine Se.toL rfl (Se.bs0 (o := ⟨some 5, _, _, _, _, _⟩) hs rfl Try.underlying23 (by kernel_rfl) ?_); clear hs; rintro w g5 - hs; replace hs := hs.blk_own 1 0 0 (by simp) (Nat.le_refl _) (by decide); simp only [Nat.zero_mul, List.take_zero] at hs)) | ((with_reducible refine Se.isL (o := ⟨some 7, _, _, _, _, _⟩) ?_); (refine Se.toL rfl (Se.ap (o := ⟨some 7, _, _, _, _, _⟩) 0 hs rfl rfl rfl rfl ((hr.mono (by intro _ h; simp only [List.mem_cons, h, or_true]))) Try.underlying23 u8i3 rfl (by decide) ((v8_one _)) ((by rw [List.length_map, HN.out, Nat.mul_one])) ((by omega)) ((by omega)) ?_); clear hs; rintro w r B c' hs; try simp only [List.set_cons_zero] at hs)))
    go_ret
    exact ⟨r, B, c', rfl, by simpa using hs⟩
end
set_option maxRecDepth 100000 in
set_option maxHeartbeats 4000000 in
theorem grow_st (hs : St w0 X L w) (n : Nat) (hle : n ≤ 70368744177664) :
    Calls Try.prog 56 #[.slice none 0 0, .int .i64 n] w fun e w' => ∃ r B c', e = .returned (.slice B 0 c') ∧ St w0 X (.own 1 r B 0 c' [] :: L) w' := by
  replace hs := hs.nil_own 1 none
  have h1 : ¬ ((n : Int) < 0) := by omega
  rcases Nat.eq_zero_or_pos n with rfl | hp
  · go_enter Try.func56, Try.ntmps56
    go_wp2_with fail
    go_ret
    exact ⟨none, none, 0, rfl, hs⟩
  · have h2 : (0 : Int) < (n : Int) := by omega
    go_enter Try.func56, Try.ntmps56
    go_wp2_with (first | (refine Se.toL rfl (Se.apn (o := ⟨some 22, _, _, _, _, _⟩) 0 hs rfl rfl rfl rfl rfl Try.underlying23 Try.underlying3 u8i3 rfl rfl (by omega) ?_); clear hs; rintro w r B c' hs; simp only [List.set_cons_zero] at hs))
    go_ret
    exact ⟨r, B, c', rfl, by simpa using hs.own_take 0 (Nat.zero_le _)⟩
def flat (l : List Pt) : List (BitVec 8) := l.flatMap Pt.bs
theorem flat_snoc (l : List Pt) (i : Nat) (h : i < l.length) : flat (l.take (i + 1)) = flat (l.take i) ++ l[i].bs := by
  unfold flat; rw [List.take_succ_eq_append_getElem h, List.flatMap_append]; simp
theorem flat_le (l : List Pt) (i : Nat) : (flat (l.take i)).length ≤ (flat l).length := by
  have : flat l = flat (l.take i) ++ flat (l.drop i) := by unfold flat; rw [← List.flatMap_append, List.take_append_drop]
  rw [this, List.length_append]; omega
set_option maxRecDepth 100000 in
set_option maxHeartbeats 4000000 in
theorem concat_st (hs : St w0 X L w) (l : List Pt) {S : Option Addr} {k cap : Nat} (hk : k = l.length) (hS : Reads L S (l.map Pt.v)) (hp : ∀ p ∈ l, Reads L p.A (p.bs.map v8)) (hle : (flat l).length ≤ 70368744177664) (hkl : k ≤ 1000) :
    Calls Try.prog 28 #[.slice S k cap] w fun e w' => ∃ r B c', e = .returned (.slice B (flat l).length c') ∧ St w0 X (.own 1 r B (flat l).length c' ((flat l).map v8) :: L) w' := by
  have HK := Lib.hid hk
  have HP := Lib.hid hp
  obtain ⟨F, hF⟩ : ∃ F : Nat → List (BitVec 8), F = fun i => flat (l.take i) := ⟨_, rfl⟩
  have HF := Lib.hid hF
  have F0 := Lib.hid (show F 0 = [] by rw [hF]; simp [flat])
  have FK := Lib.hid (show F k = flat l by rw [hF, hk]; simp)
  have FL := Lib.hid (show ∀ i, (F i).length ≤ 70368744177664 by intro i; rw [hF]; exact Nat.le_trans (flat_le l i) hle)
  have FS := Lib.hid (show ∀ i (h : i < l.length), F (i + 1) = F i ++ l[i].bs by intro i h; rw [hF]; exact flat_snoc l i h)
  clear hk hp hF hle
  go_enter Try.func28, Try.ntmps28
  go_wp2_with fail
  go_loopg [3, 11] k (fun gh s3 s11 wr => ∃ (i : Nat), gh = k - i ∧ i ≤ k ∧ s11 = .int .i64 i ∧ s3 = .int .i64 ((F i).length : Int) ∧ St w0 X L wr)
  case atStart => exact ⟨0, rfl, by omega, rfl, by rw [F0.out]; rfl, hs⟩
  case round =>
    clear hs
    rename World => w
    obtain ⟨i, rfl, hi, rfl, rfl, hs⟩ := hrel
    by_cases hlt : i < k
    · have hlt' : (i : Int) < (k : Int) := by omega
      have hil : i < l.length := by have := HK.out; omega
      obtain ⟨p, hpe⟩ : ∃ p, p = l[i] := ⟨_, rfl⟩
      have hb : (l.map Pt.v)[i]? = some (.slice p.A p.bs.length p.c) := by rw [hpe]; simp [hil]; rfl
      have FS1 := FS.out i hil
      have FL1 := FL.out (i + 1)
      rw [← hpe] at FS1
      rw [FS1, List.length_append] at FL1
      obtain ⟨a, ha⟩ : ∃ a, a = (F i).length := ⟨_, rfl⟩
      obtain ⟨b, hbl⟩ : ∃ b, b = p.bs.length := ⟨_, rfl⟩
      rw [← ha, ← hbl] at FL1
      have FL2 : (F (i + 1)).length = a + b := by rw [FS1, List.length_append, ha, hbl]
      have hneg : ¬ ((a : Int) + (b : Int) < 0) := by omega
      rw [← hbl] at hb
      obtain ⟨g, off, rfl⟩ : ∃ g off, S = some ⟨g, off, none⟩ := by
        obtain ⟨g, off, h, _⟩ := (hS w hs.hold).cells (by intro e; rw [e] at hb; simp at hb)
        exact ⟨g, off, h⟩
      have HB := Lib.hid hb
      have FL2 := Lib.hid FL2
      rw [← ha]
      clear hb FS1 ha hbl hpe hil
      go_wp2_with (first | ((with_reducible refine Se.isL (o := ⟨some 14, _, _, _, _, _⟩) ?_); (refine Se.toL rfl (Se.ld (o := ⟨some 14, _, _, _, _, _⟩) hs rfl rfl (hS.cell i HB.out) (by kernel_rfl) ?_))))
      go_roundg (k - (i + 1))
      case measure => omega
      case rel => exact ⟨i + 1, rfl, by omega, by go_num, by rw [FL2.out]; go_num, hs⟩
    · obtain rfl : i = k := by omega
      have FKL := FL.out i
      obtain ⟨q, hq⟩ : ∃ q, q = (F i).length := ⟨_, rfl⟩
      rw [← hq]
      rw [← hq] at FKL
      have HQ := Lib.hid (show q = (flat l).length by rw [hq, FK.out])
      clear hq
      go_wp2_with (first | (go_at_call 56; refine Calls.mono (grow_st hs q FKL) ?_; clear hs; rintro e w ⟨r, B, c', rfl, hs⟩))
      go_loopg [6, 27] i (fun gh s6 s27 wr => ∃ (j : Nat) (r : Option Nat) (B : Option Addr) (c' m : Nat), gh = i - j ∧ j ≤ i ∧ s27 = .int .i64 j ∧ s6 = .slice B m c' ∧ Hid (m = (F j).length) ∧ St w0 X (.own 1 r B m c' ((F j).map v8) :: L) wr)
      case atStart => exact ⟨0, r, B, c', 0, rfl, by omega, rfl, rfl, Lib.hid (by rw [F0.out]; rfl), by rw [F0.out]; exact hs⟩
      case round =>
        clear hs
        rename World => w
        obtain ⟨j, r, B, c', m, rfl, hj, rfl, rfl, HM, hs⟩ := hrel
        by_cases hlt : j < i
        · have hlt' : (j : Int) < (i : Int) := by omega
          have hil : j < l.length := by have := HK.out; omega
          obtain ⟨p, hpe⟩ : ∃ p, p = l[j] := ⟨_, rfl⟩
          have hb : (l.map Pt.v)[j]? = some (.slice p.A p.bs.length p.c) := by rw [hpe]; simp [hil]; rfl
          have hrp := Lib.hid (HP.out p (by rw [hpe]; exact List.getElem_mem hil))
          have FS1 := FS.out j hil
          have FL1 := FL.out (j + 1)
          rw [← hpe] at FS1
          rw [FS1, List.length_append, ← HM.out] at FL1
          have FM : Hid (m + p.bs.length = (F (j + 1)).length) := Lib.hid (by rw [FS1, List.length_append, HM.out])
          obtain ⟨g, off, rfl⟩ : ∃ g off, S = some ⟨g, off, none⟩ := by
            obtain ⟨g, off, h, _⟩ := (hS w (fun a ha => hs.hold a (List.mem_cons_of_mem _ ha))).cells (by intro e; rw [e] at hb; simp at hb)
            exact ⟨g, off, h⟩
          have HB := Lib.hid hb
          have FS1 := Lib.hid FS1
          clear hb hpe hil
          go_wp2_with (first | ((with_reducible refine Se.isL (o := ⟨some 30, _, _, _, _, _⟩) ?_); (refine Se.toL rfl (Se.ld (o := ⟨some 30, _, _, _, _, _⟩) hs rfl rfl ((hS.cons _).cell j HB.out) (by kernel_rfl) ?_))) | ((with_reducible refine Se.isL (o := ⟨some 33, _, _, _, _, _⟩) ?_); (refine Se.toL rfl (Se.ap (o := ⟨some 33, _, _, _, _, _⟩) 0 hs rfl rfl rfl rfl ((hrp.out.cons _)) Try.underlying23 u8i3 rfl (by decide) ((v8_one _)) ((by rw [List.length_map, Nat.mul_one])) ((by omega)) ((by omega)) ?_); clear hs; rintro w r' B' c'' hs; try simp only [List.set_cons_zero] at hs)))
          go_roundg (i - (j + 1))
          case measure => omega
          case rel => exact ⟨j + 1, r', B', c'', m + p.bs.length, rfl, by omega, by go_num, rfl, FM, by rw [FS1.out, List.map_append]; exact hs⟩
        · obtain rfl : j = i := by omega
          go_wp2_with fail
          go_ret
          rw [FK.out] at hs
          rw [← FK.out, ← HM.out]
          exact ⟨r, B, c', rfl, by rw [FK.out]; exact hs⟩
end Pd
end Go.Proofs.Ytgpbmohfgjmpkaa

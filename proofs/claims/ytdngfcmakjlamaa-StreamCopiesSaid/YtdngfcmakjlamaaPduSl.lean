/- Numbers as bytes, and the library's functions on slices that layer 35 uses: Grow, Concat, Clone, Equal, ContainsFunc. No condition but Go's own limits. -/
import Derived.Test.YtdngfcmakjlamaaPduBase
set_option linter.unusedSimpArgs false
set_option linter.unusedVariables false
namespace Go.Proofs.Ytdngfcmakjlamaa
open Go Go.RowKit
namespace Pd
open Se (St At Reads Cell)
open Li (v8 v8_one)
open Bv (n8 n16 n32 n64)
variable {w0 w : World} {X : List Nat} {L : List At}
attribute [local irreducible] Calls
section
attribute [local go_sem] Bv.of_n32 Bv.wrap_n8_of Bv.of8_n32
attribute [local go_sem ↓] Bv.shr_n32
set_option maxRecDepth 100000 in
set_option maxHeartbeats 4000000 in
theorem number_st (hs : St w0 X L w) (v : BitVec 32) (n : Nat) (hn : n ≤ 4) :
  Calls Try.prog 56 #[.int .u32 (n32 v), .int .i64 n] w fun e w' => ∃ r B c, e = .returned (.slice B n c) ∧ St w0 X (.own 1 r B n c ((numL v n).map v8) :: L) w' := by
 replace hs := hs.nil_own 1 none
 go_enter Try.func56, Try.ntmps56
 go_wp2_with fail
 go_loopg [4, 7] n (fun gh s4 s7 wr => ∃ (i : Nat) (r : Option Nat) (B : Option Addr) (c' : Nat), gh = n - i ∧ i ≤ n ∧ s7 = .int .i64 i ∧ s4 = .slice B i c' ∧ St w0 X (.own 1 r B i c' ((numL v i).map v8) :: L) wr)
 case atStart => exact ⟨0, none, none, 0, rfl, by omega, rfl, rfl, hs⟩
 case round =>
  clear hs
  rename World => w
  obtain ⟨i, r, B, c', rfl, hi, rfl, rfl, hs⟩ := hrel
  by_cases hlt : i < n
  ·have hlt' : (i : Int) < (n : Int) := by omega
   have h8 : (0 : Int) ≤ 8 * (i : Int) := by omega
   have h8n := Lib.hid (show (8 * (i : Int)).toNat = 8 * i by omega)
   have ST := Lib.hid (show (numL v (i + 1)).map v8 = (numL v i).map v8 ++ [v8 ((v >>> (8 * i)).setWidth 8)] by rw [numL_snoc]; simp)
   go_wp2_with (first | ((with_reducible refine Se.isL (o := ⟨some 16, _, _, _, _, _⟩) ?_); (refine Se.toL rfl (Se.bsv (o := ⟨some 16, _, _, _, _, _⟩) hs rfl Try.underlying24 u8i rfl ([.int .u8 _]) (by rfl) (by rfl) (by decide) (by decide) (by simp [Value.oneCell']) ?_); clear hs; rintro w g16 - hs)) | ((with_reducible refine Se.isL (o := ⟨some 17, _, _, _, _, _⟩) ?_); (refine Se.toL rfl (Se.ap (o := ⟨some 17, _, _, _, _, _⟩) 1 hs rfl rfl rfl rfl ((Reads.blk 0 rfl)) Try.underlying24 u8i3 rfl (by decide) ((by simp [Value.oneCell'])) (rfl) ((by omega)) ((by omega)) ?_); clear hs; rintro w r' B' c'' hs; try simp only [List.cons_append, List.nil_append, List.set_cons_zero, List.set_cons_succ] at hs)))
   go_roundg (n - (i + 1))
   case measure => omega
   case rel => exact ⟨i + 1, r', B', c'', rfl, by omega, by go_num, rfl, by rw [ST.out, ← h8n.out]; exact hs.drop⟩
  ·obtain rfl : i = n := by omega
   go_wp2_with fail
   go_ret
   exact ⟨r, B, c', rfl, hs⟩
end
section
attribute [local go_sem] Bv.of_n32 Bv.wrap_n32_of Bv.of32_n8
attribute [local go_sem ↓] Bv.shl_n32 Bv.or_n32
end
theorem eql_nil (A : Option Addr) (n c : Nat) (w : World) : (binOp .eql 24 (.slice A n c) (.slice none 0 0)).run Try.prog w = .ok (.bool A.isNone) w := Lib.run_eql_slice_nil w _ _ A n c 0 0 Try.underlying24
section
attribute [local go_sem] eql_nil
set_option maxRecDepth 100000 in
set_option maxHeartbeats 4000000 in
theorem clone_st (hs : St w0 X L w) {A : Option Addr} {n c : Nat} {bs : List (BitVec 8)} (hr : Reads L A (bs.map v8)) (hn : n = bs.length) (hle : n ≤ 70368744177664) :
  Calls Try.prog 49 #[.slice A n c] w fun e w' => ∃ r B c', e = .returned (.slice B n c') ∧ St w0 X (.own 1 r B n c' (bs.map v8) :: L) w' := by
 cases A with
 | none =>
  have h0 : bs.map v8 = [] := by
   rcases hr w hs.hold with h | ⟨_, _, h, _⟩
   ·exact h
   ·cases h
  have HN := Lib.hid (show n = 0 by rw [hn]; simpa using h0)
  have H0 := Lib.hid h0
  clear hn h0 hle
  replace hs := hs.nil_own 1 none
  go_enter Try.func49, Try.ntmps49
  go_wp2_with fail
  go_ret
  rw [H0.out, HN.out]
  exact ⟨none, none, 0, rfl, hs⟩
 | some ad =>
  have HN := Lib.hid hn
  clear hn
  go_enter Try.func49, Try.ntmps49
  go_wp2_with (first | ((with_reducible refine Se.isL (o := ⟨some 5, _, _, _, _, _⟩) ?_); (refine Se.toL rfl (Se.bs0 (o := ⟨some 5, _, _, _, _, _⟩) hs rfl Try.underlying24 (by kernel_rfl) ?_); clear hs; rintro w g5 - hs; replace hs := hs.blk_own 1 0 0 (by simp) (Nat.le_refl _) (by decide); simp only [Nat.zero_mul, List.take_zero] at hs)) | ((with_reducible refine Se.isL (o := ⟨some 7, _, _, _, _, _⟩) ?_); (refine Se.toL rfl (Se.ap (o := ⟨some 7, _, _, _, _, _⟩) 0 hs rfl rfl rfl rfl ((hr.mono (by intro _ h; simp only [List.mem_cons, h, or_true]))) Try.underlying24 u8i3 rfl (by decide) ((v8_one _)) ((by rw [List.length_map, HN.out, Nat.mul_one])) ((by omega)) ((by omega)) ?_); clear hs; rintro w r B c' hs; try simp only [List.cons_append, List.nil_append, List.set_cons_zero] at hs)))
  go_ret
  exact ⟨r, B, c', rfl, by simpa using hs⟩
end
set_option maxRecDepth 100000 in
set_option maxHeartbeats 4000000 in
theorem grow_st (hs : St w0 X L w) (n : Nat) (hle : n ≤ 70368744177664) :
  Calls Try.prog 67 #[.slice none 0 0, .int .i64 n] w fun e w' => ∃ r B c', e = .returned (.slice B 0 c') ∧ St w0 X (.own 1 r B 0 c' [] :: L) w' := by
 replace hs := hs.nil_own 1 none
 have h1 : ¬ ((n : Int) < 0) := by omega
 rcases Nat.eq_zero_or_pos n with rfl | hp
 ·go_enter Try.func67, Try.ntmps67
  go_wp2_with fail
  go_ret
  exact ⟨none, none, 0, rfl, hs⟩
 ·have h2 : (0 : Int) < (n : Int) := by omega
  go_enter Try.func67, Try.ntmps67
  go_wp2_with (first | (refine Se.toL rfl (Se.apn (o := ⟨some 22, _, _, _, _, _⟩) 0 hs rfl rfl rfl rfl rfl Try.underlying24 Try.underlying3 u8i3 rfl rfl (by omega) ?_); clear hs; rintro w r B c' hs; simp only [List.set_cons_zero] at hs))
  go_ret
  exact ⟨r, B, c', rfl, by simpa using hs.own_take 0 (Nat.zero_le _)⟩
def flat (l : List Pt) : List (BitVec 8) := l.flatMap Pt.bs
theorem flat_snoc (l : List Pt) (i : Nat) (h : i < l.length) : flat (l.take (i + 1)) = flat (l.take i) ++ l[i].bs := by
 unfold flat; rw [List.take_succ_eq_append_getElem h, List.flatMap_append]; simp
theorem flat_le (l : List Pt) (i : Nat) : (flat (l.take i)).length ≤ (flat l).length := by
 have : flat l = flat (l.take i) ++ flat (l.drop i) := by unfold flat; rw [← List.flatMap_append, List.take_append_drop]
 rw [this, List.length_append]; omega
set_option maxRecDepth 100000 in
set_option maxHeartbeats 4000000 in
theorem concat_st (hs : St w0 X L w) (l : List Pt) {S : Option Addr} {k cap : Nat} (hk : k = l.length) (hS : Reads L S (l.map Pt.v)) (hp : ∀ p ∈ l, Reads L p.A (p.bs.map v8)) (hle : (flat l).length ≤ 70368744177664) (hkl : k ≤ 1000) :
  Calls Try.prog 54 #[.slice S k cap] w fun e w' => ∃ r B c', e = .returned (.slice B (flat l).length c') ∧ St w0 X (.own 1 r B (flat l).length c' ((flat l).map v8) :: L) w' := by
 have HK := Lib.hid hk
 have HP := Lib.hid hp
 obtain ⟨F, hF⟩ : ∃ F : Nat → List (BitVec 8), F = fun i => flat (l.take i) := ⟨_, rfl⟩
 have HF := Lib.hid hF
 have F0 := Lib.hid (show F 0 = [] by rw [hF]; simp [flat])
 have FK := Lib.hid (show F k = flat l by rw [hF, hk]; simp)
 have FL := Lib.hid (show ∀ i, (F i).length ≤ 70368744177664 by intro i; rw [hF]; exact Nat.le_trans (flat_le l i) hle)
 have FS := Lib.hid (show ∀ i (h : i < l.length), F (i + 1) = F i ++ l[i].bs by intro i h; rw [hF]; exact flat_snoc l i h)
 clear hk hp hF hle
 go_enter Try.func54, Try.ntmps54
 go_wp2_with fail
 go_loopg [3, 11] k (fun gh s3 s11 wr => ∃ (i : Nat), gh = k - i ∧ i ≤ k ∧ s11 = .int .i64 i ∧ s3 = .int .i64 ((F i).length : Int) ∧ St w0 X L wr)
 case atStart => exact ⟨0, rfl, by omega, rfl, by rw [F0.out]; rfl, hs⟩
 case round =>
  clear hs
  rename World => w
  obtain ⟨i, rfl, hi, rfl, rfl, hs⟩ := hrel
  by_cases hlt : i < k
  ·have hlt' : (i : Int) < (k : Int) := by omega
   have hil : i < l.length := by have := HK.out; omega
   obtain ⟨p, hpe⟩ : ∃ p, p = l[i] := ⟨_, rfl⟩
   have hb : (l.map Pt.v)[i]? = some (.slice p.A p.bs.length p.c) := by rw [hpe]; simp [hil]; rfl
   have FS1 := FS.out i hil
   have FL1 := FL.out (i + 1)
   rw [← hpe] at FS1
   rw [FS1, List.length_append] at FL1
   obtain ⟨a, ha⟩ : ∃ a, a = (F i).length := ⟨_, rfl⟩
   obtain ⟨b, hbl⟩ : ∃ b, b = p.bs.length := ⟨_, rfl⟩
   rw [← ha, ← hbl] at FL1
   have FL2 : (F (i + 1)).length = a + b := by rw [FS1, List.length_append, ha, hbl]
   have hneg : ¬ ((a : Int) + (b : Int) < 0) := by omega
   rw [← hbl] at hb
   obtain ⟨g, off, rfl⟩ : ∃ g off, S = some ⟨g, off, none⟩ := by
    obtain ⟨g, off, h, _⟩ := (hS w hs.hold).cells (by intro e; rw [e] at hb; simp at hb)
    exact ⟨g, off, h⟩
   have HB := Lib.hid hb
   have FL2 := Lib.hid FL2
   rw [← ha]
   clear hb FS1 ha hbl hpe hil
   go_wp2_with (first | ((with_reducible refine Se.isL (o := ⟨some 14, _, _, _, _, _⟩) ?_); (refine Se.toL rfl (Se.ld (o := ⟨some 14, _, _, _, _, _⟩) hs rfl rfl (hS.cell i HB.out) (by kernel_rfl) ?_))))
   go_roundg (k - (i + 1))
   case measure => omega
   case rel => exact ⟨i + 1, rfl, by omega, by go_num, by rw [FL2.out]; go_num, hs⟩
  ·obtain rfl : i = k := by omega
   have FKL := FL.out i
   obtain ⟨q, hq⟩ : ∃ q, q = (F i).length := ⟨_, rfl⟩
   rw [← hq]
   rw [← hq] at FKL
   have HQ := Lib.hid (show q = (flat l).length by rw [hq, FK.out])
   clear hq
   go_wp2_with (first | (go_at_call 67; refine Calls.mono (grow_st hs q FKL) ?_; clear hs; rintro e w ⟨r, B, c', rfl, hs⟩))
   go_loopg [6, 27] i (fun gh s6 s27 wr => ∃ (j : Nat) (r : Option Nat) (B : Option Addr) (c' m : Nat), gh = i - j ∧ j ≤ i ∧ s27 = .int .i64 j ∧ s6 = .slice B m c' ∧ Hid (m = (F j).length) ∧ St w0 X (.own 1 r B m c' ((F j).map v8) :: L) wr)
   case atStart => exact ⟨0, r, B, c', 0, rfl, by omega, rfl, rfl, Lib.hid (by rw [F0.out]; rfl), by rw [F0.out]; exact hs⟩
   case round =>
    clear hs
    rename World => w
    obtain ⟨j, r, B, c', m, rfl, hj, rfl, rfl, HM, hs⟩ := hrel
    by_cases hlt : j < i
    ·have hlt' : (j : Int) < (i : Int) := by omega
     have hil : j < l.length := by have := HK.out; omega
     obtain ⟨p, hpe⟩ : ∃ p, p = l[j] := ⟨_, rfl⟩
     have hb : (l.map Pt.v)[j]? = some (.slice p.A p.bs.length p.c) := by rw [hpe]; simp [hil]; rfl
     have hrp := Lib.hid (HP.out p (by rw [hpe]; exact List.getElem_mem hil))
     have FS1 := FS.out j hil
     have FL1 := FL.out (j + 1)
     rw [← hpe] at FS1
     rw [FS1, List.length_append, ← HM.out] at FL1
     have FM : Hid (m + p.bs.length = (F (j + 1)).length) := Lib.hid (by rw [FS1, List.length_append, HM.out])
     obtain ⟨g, off, rfl⟩ : ∃ g off, S = some ⟨g, off, none⟩ := by
      obtain ⟨g, off, h, _⟩ := (hS w (fun a ha => hs.hold a (List.mem_cons_of_mem _ ha))).cells (by intro e; rw [e] at hb; simp at hb)
      exact ⟨g, off, h⟩
     have HB := Lib.hid hb
     have FS1 := Lib.hid FS1
     clear hb hpe hil
     go_wp2_with (first | ((with_reducible refine Se.isL (o := ⟨some 30, _, _, _, _, _⟩) ?_); (refine Se.toL rfl (Se.ld (o := ⟨some 30, _, _, _, _, _⟩) hs rfl rfl ((hS.cons _).cell j HB.out) (by kernel_rfl) ?_))) | ((with_reducible refine Se.isL (o := ⟨some 33, _, _, _, _, _⟩) ?_); (refine Se.toL rfl (Se.ap (o := ⟨some 33, _, _, _, _, _⟩) 0 hs rfl rfl rfl rfl ((hrp.out.cons _)) Try.underlying24 u8i3 rfl (by decide) ((v8_one _)) ((by rw [List.length_map, Nat.mul_one])) ((by omega)) ((by omega)) ?_); clear hs; rintro w r' B' c'' hs; try simp only [List.cons_append, List.nil_append, List.set_cons_zero] at hs)))
     go_roundg (i - (j + 1))
     case measure => omega
     case rel => exact ⟨j + 1, r', B', c'', m + p.bs.length, rfl, by omega, by go_num, rfl, FM, by rw [FS1.out, List.map_append]; exact hs⟩
    ·obtain rfl : j = i := by omega
     go_wp2_with fail
     go_ret
     rw [FK.out] at hs
     rw [← FK.out, ← HM.out]
     exact ⟨r, B, c', rfl, by rw [FK.out]; exact hs⟩
end Pd
end Go.Proofs.Ytdngfcmakjlamaa
/- More small functions of layer 35: what only reads; fields, Equal, zeros. No condition but Go's own limits. -/
namespace Go.Proofs.Ytdngfcmakjlamaa
open Go Go.RowKit
namespace Pd
open Se (St At Reads Cell)
open Li (v8 v8_one Rd)
open Bv (n8 n16 n32 n64)
variable {w0 w : World} {X : List Nat} {L : List At}
attribute [local irreducible] Calls
theorem Rd_cell {w : World} {A : Option Addr} {xs : List Value} (h : Rd w A xs) (i : Nat) {v : Value} (hv : xs[i]? = some v) : ∃ g off, A = some ⟨g, off, none⟩ ∧ w.cell? ⟨g, off + i, none⟩ = some v := by
 have hi := (List.getElem?_eq_some_iff.1 hv).1
 obtain ⟨g, off, hA, _, hc⟩ := h.cells (by intro e; rw [e] at hi; simp at hi)
 exact ⟨g, off, hA, (hc i hi).trans hv⟩
theorem v8_at (bs : List (BitVec 8)) (i : Nat) (h : i < bs.length) : (bs.map v8)[i]? = some (.int .u8 (n8 (bs.getD i 0#8))) := by simp [h]
section
attribute [local go_sem] Bv.of_n32 Bv.wrap_n32_of Bv.of32_n8
attribute [local go_sem ↓] Bv.shl_n32 Bv.or_n32
set_option maxRecDepth 100000 in
set_option maxHeartbeats 4000000 in
theorem value_any (w : World) (bs : List (BitVec 8)) (n c : Nat) (hn : n = bs.length) (h4 : n ≤ 4) {A : Option Addr} (hr : Rd w A (bs.map v8)) :
  Calls Try.prog 98 #[.slice A n c] w fun e w' => e = .returned (.int .u32 (n32 (w32 bs))) ∧ w' = w := by
 have HN := Lib.hid hn
 have HR := Lib.hid hr
 clear hn hr
 go_enter Try.func98, Try.ntmps98
 go_wp2
 go_loop [2, 3, 4, 7] (fun s2 _ _ s7 => ∃ i : Nat, i ≤ n ∧ s7 = .int .i64 i ∧ s2 = .int .u32 (n32 (w32 (bs.take i)))) (fun _ _ _ i => n - (intOf i).toNat)
 case atStart => exact ⟨0, by omega, rfl, rfl⟩
 case round =>
  obtain ⟨i, hi, rfl, rfl⟩ := hrel
  by_cases hlt : i < n
  ·have hlt' : (i : Int) < (n : Int) := by omega
   have h8 : (0 : Int) ≤ 8 * (i : Int) := by omega
   have hil : i < bs.length := by have := HN.out; omega
   obtain ⟨x, hx⟩ : ∃ x, x = bs.getD i 0#8 := ⟨_, rfl⟩
   obtain ⟨g, off, rfl, hc⟩ := Rd_cell HR.out i (v8_at bs i hil)
   rw [← hx] at hc
   have ST : w32 (bs.take (i + 1)) = w32 (bs.take i) ||| (x.setWidth 32 <<< (8 * i)) := by
    rw [List.take_succ_eq_append_getElem hil, w32_snoc _ _ (by simp; omega), hx]
    congr 2
    ·simp [hil]
    ·simp; omega
   have ST := Lib.hid ST
   clear hx hil
   go_wp2
   go_round
   case rel => exact ⟨i + 1, by omega, by go_num, by rw [ST.out]⟩
   case measure => simp [intOf]; omega
  ·go_wp2
   go_ret
   obtain rfl : i = n := by omega
   rw [List.take_of_length_le (by rw [← HN.out]; exact Nat.le_refl _)]
   exact ⟨rfl, rfl⟩
end
set_option maxRecDepth 100000 in
set_option maxHeartbeats 4000000 in
theorem big_any (w : World) (bs : List (BitVec 8)) (n c : Nat) (hn : n = bs.length) (h4 : n ≤ 7) {A : Option Addr} (hr : Rd w A (bs.map v8)) :
  Calls Try.prog 94 #[.slice A n c] w fun e w' => e = .returned (.int .i64 (bigL bs : Nat)) ∧ w' = w := by
 have HN := Lib.hid hn
 have HR := Lib.hid hr
 clear hn hr
 have hn1 := IntWalk.i64_in ((n : Int) - 1) (by omega)
 go_enter Try.func94, Try.ntmps94
 go_wp2
 go_loop [3, 4] (fun s3 s4 => ∃ i : Nat, i ≤ n ∧ s4 = .int .i64 ((i : Int) - 1) ∧ s3 = .int .i64 (bigL (bs.drop i) : Nat)) (fun _ i => (intOf i + 1).toNat)
 case atStart => exact ⟨n, by omega, by simp [hn1], by rw [List.drop_eq_nil_of_le (by rw [HN.out]; exact Nat.le_refl _)]; rfl⟩
 case round =>
  obtain ⟨i, hi, rfl, rfl⟩ := hrel
  by_cases hlt : 0 < i
  ·obtain ⟨j, rfl⟩ : ∃ j, i = j + 1 := ⟨i - 1, by omega⟩
   have hge : (0 : Int) ≤ ((j + 1 : Nat) : Int) - 1 := by omega
   have hlt' : ((j + 1 : Nat) : Int) - 1 < (n : Int) := by omega
   have hil : j < bs.length := by have := HN.out; omega
   obtain ⟨x, hx⟩ : ∃ x, x = bs.getD j 0#8 := ⟨_, rfl⟩
   obtain ⟨g, off, rfl, hc⟩ := Rd_cell HR.out j (v8_at bs j hil)
   rw [← hx] at hc
   have hlB := bigL_lt (bs.drop (j + 1))
   have ST : bigL (bs.drop j) = x.toNat + 256 * bigL (bs.drop (j + 1)) := by
    rw [List.drop_eq_getElem_cons hil, bigL, hx]; simp [hil]
   have hbound : 256 * bigL (bs.drop (j + 1)) + x.toNat ≤ 9223372036854775807 := by
    have h1 : (256 : Nat) ^ (bs.drop (j + 1)).length ≤ 256 ^ 6 := Nat.pow_le_pow_right (by omega) (by rw [List.length_drop, ← HN.out]; omega)
    have := x.isLt
    omega
   have ST := Lib.hid ST
   obtain ⟨q, hq⟩ : ∃ q, q = bigL (bs.drop (j + 1)) := ⟨_, rfl⟩
   rw [← hq] at hbound hlB ⊢
   have HQ := Lib.hid hq
   have e1 : (n8 x) = (x.toNat : Int) := rfl
   rw [e1] at hc
   obtain ⟨y, hy⟩ : ∃ y, y = x.toNat := ⟨_, rfl⟩
   rw [← hy] at hc hbound
   have HY := Lib.hid hy
   have e2 : ((j + 1 : Nat) : Int) - 1 = (j : Int) := by omega
   have b1 := IntWalk.i64_in (256 * (q : Int)) (by omega)
   have b2 := IntWalk.i64_in (256 * (q : Int) + (y : Int)) (by omega)
   have b3 := IntWalk.i64_in ((j : Int) - 1) (by omega)
   rw [e2] at hge hlt' ⊢
   clear hx hil hq hy e1 e2 hlB
   go_wp2
   go_round
   case rel => exact ⟨j, by omega, by simp [b3], by rw [ST.out, ← HQ.out, ← HY.out]; simp only [Int.natCast_add, Int.natCast_mul, Int.add_comm]; rfl⟩
   case measure => simp [intOf, b3]
  ·obtain rfl : i = 0 := by omega
   go_wp2
   go_ret
   exact ⟨by simp, rfl⟩
theorem concat_st' (hs : St w0 X L w) (l : List Pt) {S : Option Addr} {k cap : Nat} (hk : k = l.length) (hS : Reads L S (l.map Pt.v)) (hp : ∀ p ∈ l, Reads L p.A (p.bs.map v8)) {bs : List (BitVec 8)} (hb : flat l = bs) {q : Nat} (hq : q = bs.length) (hle : q ≤ 70368744177664) (hkl : k ≤ 1000) :
  Calls Try.prog 54 #[.slice S k cap] w fun e w' => ∃ r B c', e = .returned (.slice B q c') ∧ St w0 X (.own 1 r B q c' (bs.map v8) :: L) w' := by
 subst hb hq
 exact concat_st hs l hk hS hp hle hkl
set_option maxRecDepth 100000 in
set_option maxHeartbeats 4000000 in
theorem fields_st (hs : St w0 X L w) (m : Nat) (l : List Pt) {S : Option Addr} {k cap : Nat} (hk : k = l.length) (hS : Reads L S (l.map Pt.v)) (hp : ∀ p ∈ l, Reads L p.A (p.bs.map v8)) (hle : (flat l).length ≤ m) (hm : m ≤ 70368744177664) (hkl : k ≤ 1000) :
  Calls Try.prog 58 #[.int .i64 m, .slice S k cap] w fun e w' => ∃ r B c', e = .returned (.slice B m c') ∧ St w0 X (.own 1 r B m c' ((flat l ++ zs (m - (flat l).length)).map v8) :: L) w' := by
 have HK := Lib.hid hk
 have HS := Lib.hid hS
 have HP := Lib.hid hp
 obtain ⟨bs, hb⟩ : ∃ bs, bs = flat l := ⟨_, rfl⟩
 obtain ⟨q, hq⟩ : ∃ q, q = bs.length := ⟨_, rfl⟩
 rw [← hb, ← hq] at hle
 rw [← hb, ← hq]
 have HB := Lib.hid hb
 have HQ := Lib.hid hq
 have hw := IntWalk.i64_in ((m : Int) - (q : Int)) (by omega)
 clear hk hS hp hb hq
 go_enter Try.func58, Try.ntmps58
 go_wp2_with (first | ((with_reducible refine Se.isL (o := ⟨some 13, _, _, _, _, _⟩) ?_); (refine Se.toL rfl (Se.apn (o := ⟨some 13, _, _, _, _, _⟩) 0 (m := (m - q)) hs rfl rfl rfl (by first | rfl | omega | (go_num; done)) rfl Try.underlying24 Try.underlying3 Pd.u8i3 rfl rfl ((by omega)) ?_); clear hs; rintro w r B c hs; try simp only [List.cons_append, List.nil_append, List.set_cons_zero] at hs)) | (go_at_call 54; refine Calls.mono (concat_st' hs l HK.out HS.out HP.out HB.out.symm HQ.out (by omega) hkl) ?_; clear hs; rintro e w ⟨r, B, c, rfl, hs⟩))
 go_ret
 have e : q + (m - q) = m := by omega
 rw [e] at hs
 refine ⟨r, B, c, by rw [← e]; rfl, ?_⟩
 have e2 : (bs ++ zs (m - q)).map v8 = bs.map v8 ++ List.replicate (m - q) (.int .u8 0) := by rw [List.map_append, List.map_replicate]; rfl
 rw [e2]
 exact hs
end Pd
end Go.Proofs.Ytdngfcmakjlamaa
/- slices.Equal, IndexFunc, ContainsFunc; are all bytes zero? No condition but Go's own limits. -/
namespace Go.Proofs.Ytdngfcmakjlamaa
open Go Go.RowKit
namespace Pd
open Se (St At Reads Cell)
open Li (v8 v8_one Rd)
open Bv (n8 n16 n32 n64)
variable {w0 w : World} {X : List Nat} {L : List At}
attribute [local irreducible] Calls
theorem take_eq_succ {xs ys : List (BitVec 8)} {i : Nat} (hx : i < xs.length) (hy : i < ys.length) (h : xs.take i = ys.take i) (e : xs[i] = ys[i]) : xs.take (i + 1) = ys.take (i + 1) := by
 rw [List.take_succ_eq_append_getElem hx, List.take_succ_eq_append_getElem hy, h, e]
set_option maxRecDepth 100000 in
set_option maxHeartbeats 4000000 in
theorem equal_st (hs : St w0 X L w) {xs ys : List (BitVec 8)} {A B : Option Addr} {n m c d : Nat} (hn : n = xs.length) (hm : m = ys.length) (hA : Reads L A (xs.map v8)) (hB : Reads L B (ys.map v8)) (hle : n ≤ 70368744177664) {b : Bool} (hb : (xs == ys) = b) :
  Calls Try.prog 97 #[.slice A n c, .slice B m d] w fun e w' => e = .returned (.bool b) ∧ St w0 X L w' := by
 have HN := Lib.hid hn
 have HM := Lib.hid hm
 have HA := Lib.hid hA
 have HB := Lib.hid hB
 have HE := Lib.hid hb
 by_cases hnm : n = m
 ·subst hnm
  have hne : ((n : Int) != (n : Int)) = false := by simp
  clear hn hm hA hB hb
  go_enter Try.func97, Try.ntmps97
  go_wp2_with fail
  go_loopg [13] n (fun gh s13 wr => ∃ i : Nat, gh = n - i ∧ i ≤ n ∧ s13 = .int .i64 i ∧ Hid (xs.take i = ys.take i) ∧ St w0 X L wr)
  case atStart => exact ⟨0, rfl, by omega, rfl, Lib.hid (by simp), hs⟩
  case round =>
   clear hs
   rename World => w
   obtain ⟨i, rfl, hi, rfl, HT, hs⟩ := hrel
   by_cases hlt : i < n
   ·have hlt' : (i : Int) < (n : Int) := by omega
    have hx : i < xs.length := by have := HN.out; omega
    have hy : i < ys.length := by have := HM.out; omega
    obtain ⟨ga, oa, rfl, hca⟩ := Rd_cell (HA.out w hs.hold) i (v8_at xs i hx)
    obtain ⟨gb, ob, rfl, hcb⟩ := Rd_cell (HB.out w hs.hold) i (v8_at ys i hy)
    obtain ⟨x, hxe⟩ : ∃ x, x = xs.getD i 0#8 := ⟨_, rfl⟩
    obtain ⟨y, hye⟩ : ∃ y, y = ys.getD i 0#8 := ⟨_, rfl⟩
    rw [← hxe] at hca
    rw [← hye] at hcb
    have ex : xs[i] = x := by rw [hxe]; simp [hx]
    have ey : ys[i] = y := by rw [hye]; simp [hy]
    by_cases hxy : x = y
    ·subst hxy
     have hv : (n8 x != n8 x) = false := by simp
     have HT2 := Lib.hid (take_eq_succ hx hy HT.out (ex.trans ey.symm))
     clear hx hy ex ey hxe hye
     go_wp2_with fail
     go_quiet (fail)
     replace hs := hs.drewN nq
     generalize w.drewN nq = w at hs ⊢
     go_wp2_with fail
     go_roundg (n - (i + 1))
     case measure => omega
     case rel => exact ⟨i + 1, rfl, by omega, by go_num, HT2, hs⟩
    ·have hv : (n8 x != n8 y) = true := by simp [Bv.n8_eq_iff, hxy]
     have hE2 : b = false := by
      rw [← HE.out]
      apply beq_eq_false_iff_ne.2
      intro e; subst e
      exact hxy (ex.symm.trans ey)
     clear hx hy ex ey hxe hye hxy
     subst hE2
     go_wp2_with fail
     go_quiet (fail)
     replace hs := hs.drewN nq
     generalize w.drewN nq = w at hs ⊢
     go_wp2_with fail
     go_ret
     exact ⟨rfl, hs⟩
   ·obtain rfl : i = n := by omega
    have hE2 : b = true := by
     rw [← HE.out]
     have := HT.out
     rw [List.take_of_length_le (by rw [← HN.out]; exact Nat.le_refl _), List.take_of_length_le (by rw [← HM.out]; exact Nat.le_refl _)] at this
     rw [this]; simp
    subst hE2
    go_wp2_with fail
    go_ret
    exact ⟨rfl, hs⟩
 ·have hne : ((n : Int) != (m : Int)) = true := by simp; omega
  have hE2 : b = false := by
   rw [← hb]
   apply beq_eq_false_iff_ne.2
   intro e; subst e
   exact hnm (hn.trans hm.symm)
  subst hE2
  clear hn hm hA hB hb hnm
  go_enter Try.func97, Try.ntmps97
  go_wp2_with fail
  go_ret
  exact ⟨rfl, hs⟩
set_option maxRecDepth 100000 in
set_option maxHeartbeats 4000000 in
theorem zeros1_any (x : BitVec 8) (w : World) : Calls Try.prog 108 #[.int .u8 (n8 x)] w fun e w' => e = .returned (.bool (n8 x != 0)) ∧ w' = w := by
 go_enter Try.func108, Try.ntmps108
 go_wp2
 go_ret
 exact ⟨rfl, rfl⟩
theorem n8_ne (x : BitVec 8) : (n8 x != 0) = !(x == 0#8) := by
 have := Bv.n8_beq x 0#8
 rw [← this]; rfl
set_option maxRecDepth 100000 in
set_option maxHeartbeats 4000000 in
theorem indexFunc_st (hs : St w0 X L w) {bs : List (BitVec 8)} {A : Option Addr} {n c : Nat} (hn : n = bs.length) (hA : Reads L A (bs.map v8)) (hle : n ≤ 70368744177664) :
  Calls Try.prog 109 #[.slice A n c, .func (.func 108) #[] #[]] w fun e w' => ∃ z : Int, e = .returned (.int .i64 z) ∧ decide (0 ≤ z) = !(zeros bs) ∧ St w0 X L w' := by
 have HN := Lib.hid hn
 have HA := Lib.hid hA
 clear hn hA
 go_enter Try.func109, Try.ntmps109
 go_wp2_with fail
 go_loopg [8] n (fun gh s8 wr => ∃ i : Nat, gh = n - i ∧ i ≤ n ∧ s8 = .int .i64 i ∧ Hid (zeros (bs.take i) = true) ∧ St w0 X L wr)
 case atStart => exact ⟨0, rfl, by omega, rfl, Lib.hid rfl, hs⟩
 case round =>
  clear hs
  rename World => w
  obtain ⟨i, rfl, hi, rfl, HT, hs⟩ := hrel
  by_cases hlt : i < n
  ·have hlt' : (i : Int) < (n : Int) := by omega
   have hx : i < bs.length := by have := HN.out; omega
   obtain ⟨ga, oa, rfl, hca⟩ := Rd_cell (HA.out w hs.hold) i (v8_at bs i hx)
   obtain ⟨x, hxe⟩ : ∃ x, x = bs.getD i 0#8 := ⟨_, rfl⟩
   rw [← hxe] at hca
   have ex : bs[i] = x := by rw [hxe]; simp [hx]
   by_cases h0 : x = 0#8
   ·have hv : (n8 x != 0) = false := by rw [n8_ne, h0]; rfl
    have HT2 : Hid (zeros (bs.take (i + 1)) = true) := Lib.hid (by rw [List.take_succ_eq_append_getElem hx]; have := HT.out; unfold zeros at this ⊢; rw [List.all_append, this, ex, h0]; rfl)
    clear hx ex hxe h0
    go_wp2_with (first | (go_at_call 108; refine Calls.mono (zeros1_any x _) ?_; rintro e w' ⟨rfl, rfl⟩))
    go_roundg (n - (i + 1))
    case measure => omega
    case rel => exact ⟨i + 1, rfl, by omega, by go_num, HT2, hs⟩
   ·have hv : (n8 x != 0) = true := by rw [n8_ne]; simpa using h0
    have HZ : zeros bs = false := by
     unfold zeros
     rw [← Bool.not_eq_true, List.all_eq_true]
     intro h
     have := h bs[i] (List.getElem_mem hx)
     rw [ex] at this
     exact h0 (by simpa using this)
    clear hx ex hxe h0
    go_wp2_with (first | (go_at_call 108; refine Calls.mono (zeros1_any x _) ?_; rintro e w' ⟨rfl, rfl⟩))
    go_ret
    exact ⟨i, rfl, by rw [HZ]; simp, hs⟩
  ·obtain rfl : i = n := by omega
   have HZ : zeros bs = true := by have := HT.out; rwa [List.take_of_length_le (by rw [← HN.out]; exact Nat.le_refl _)] at this
   go_wp2_with fail
   go_ret
   exact ⟨-1, rfl, by rw [HZ]; rfl, hs⟩
set_option maxRecDepth 100000 in
set_option maxHeartbeats 4000000 in
theorem containsFunc_st (hs : St w0 X L w) {bs : List (BitVec 8)} {A : Option Addr} {n c : Nat} (hn : n = bs.length) (hA : Reads L A (bs.map v8)) (hle : n ≤ 70368744177664) :
  Calls Try.prog 107 #[.slice A n c, .func (.func 108) #[] #[]] w fun e w' => e = .returned (.bool (!(zeros bs))) ∧ St w0 X L w' := by
 obtain ⟨b, hb⟩ : ∃ b, b = zeros bs := ⟨_, rfl⟩
 have C := Lib.hid (indexFunc_st hs (c := c) hn hA hle)
 rw [← hb] at C ⊢
 clear hn hA hb
 go_enter Try.func107, Try.ntmps107
 go_wp2_with (first | (go_at_call 109; refine Calls.mono (C.out) ?_; clear hs; rintro e w ⟨z, rfl, hz, hs⟩))
 go_ret
 exact ⟨by rw [← hz]; rfl, hs⟩
set_option maxRecDepth 100000 in
set_option maxHeartbeats 4000000 in
theorem zeros_st (hs : St w0 X L w) {bs : List (BitVec 8)} {A : Option Addr} {n c : Nat} (hn : n = bs.length) (hA : Reads L A (bs.map v8)) (hle : n ≤ 70368744177664) {b : Bool} (hb : zeros bs = b) :
  Calls Try.prog 106 #[.slice A n c] w fun e w' => e = .returned (.bool b) ∧ St w0 X L w' := by
 have C := Lib.hid (containsFunc_st hs (c := c) hn hA hle)
 rw [hb] at C
 clear hn hA hb
 go_enter Try.func106, Try.ntmps106
 go_wp2_with (first | (go_at_call 107; refine Calls.mono (C.out) ?_; clear hs; rintro e w ⟨rfl, hs⟩))
 go_ret
 exact ⟨by simp, hs⟩
end Pd
end Go.Proofs.Ytdngfcmakjlamaa


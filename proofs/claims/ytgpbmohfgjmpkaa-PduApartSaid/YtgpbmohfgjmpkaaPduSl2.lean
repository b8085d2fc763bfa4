/- More small functions of layer 35: what only reads; fields, Equal, zeros. No condition but Go's own limits. -/
import Derived.Test.YtgpbmohfgjmpkaaPduSl
set_option linter.unusedSimpArgs false
set_option linter.unusedVariables false
namespace Go.Proofs.Ytgpbmohfgjmpkaa
open Go Go.RowKit
namespace Pd
open Se (St At Reads Cell)
open Li (v8 v8_one Rd)
open Bv (n8 n16 n32 n64)
variable {w0 w : World} {X : List Nat} {L : List At}
attribute [local irreducible] Calls
theorem Rd_cell {w : World} {A : Option Addr} {xs : List Value} (h : Rd w A xs) (i : Nat) {v : Value} (hv : xs[i]? = some v) : ∃ g off, A = some ⟨g, off, none⟩ ∧ w.cell? ⟨g, off + i, none⟩ = some v := by
  have hi := (List.getElem?_eq_some_iff.1 hv).1
  obtain ⟨g, off, hA, _, hc⟩ := h.cells (by intro e; rw [e] at hi; simp at hi)
  exact ⟨g, off, hA, (hc i hi).trans hv⟩
theorem v8_at (bs : List (BitVec 8)) (i : Nat) (h : i < bs.length) : (bs.map v8)[i]? = some (.int .u8 (n8 (bs.getD i 0#8))) := by simp [h]
section
attribute [local go_sem] Bv.of_n32 Bv.wrap_n32_of Bv.of32_n8
attribute [local go_sem ↓] Bv.shl_n32 Bv.or_n32
set_option maxRecDepth 100000 in
set_option maxHeartbeats 4000000 in
theorem value_any (w : World) (bs : List (BitVec 8)) (n c : Nat) (hn : n = bs.length) (h4 : n ≤ 4) {A : Option Addr} (hr : Rd w A (bs.map v8)) :
    Calls Try.prog 60 #[.slice A n c] w fun e w' => e = .returned (.int .u32 (n32 (w32 bs))) ∧ w' = w := by
  have HN := Lib.hid hn
  have HR := Lib.hid hr
  clear hn hr
  go_enter Try.func60, Try.ntmps60
  go_wp2
  go_loop [2, 3, 4, 7] (fun s2 _ _ s7 => ∃ i : Nat, i ≤ n ∧ s7 = .int .i64 i ∧ s2 = .int .u32 (n32 (w32 (bs.take i)))) (fun _ _ _ i => n - (intOf i).toNat)
  case atStart => exact ⟨0, by omega, rfl, rfl⟩
  case round =>
    obtain ⟨i, hi, rfl, rfl⟩ := hrel
    by_cases hlt : i < n
    · have hlt' : (i : Int) < (n : Int) := by omega
      have h8 : (0 : Int) ≤ 8 * (i : Int) := by omega
      have hil : i < bs.length := by have := HN.out; omega
      obtain ⟨x, hx⟩ : ∃ x, x = bs.getD i 0#8 := ⟨_, rfl⟩
      obtain ⟨g, off, rfl, hc⟩ := Rd_cell HR.out i (v8_at bs i hil)
      rw [← hx] at hc
      have ST : w32 (bs.take (i + 1)) = w32 (bs.take i) ||| (x.setWidth 32 <<< (8 * i)) := by
        rw [List.take_succ_eq_append_getElem hil, w32_snoc _ _ (by simp; omega), hx]
        congr 2
        · simp [hil]
        · simp; omega
      have ST := Lib.hid ST
      clear hx hil
      go_wp2
      go_round
      case rel => exact ⟨i + 1, by omega, by go_num, by rw [ST.out]⟩
      case measure => simp [intOf]; omega
    · go_wp2
      go_ret
      obtain rfl : i = n := by omega
      rw [List.take_of_length_le (by rw [← HN.out]; exact Nat.le_refl _)]
      exact ⟨rfl, rfl⟩
end
set_option maxRecDepth 100000 in
set_option maxHeartbeats 4000000 in
theorem big_any (w : World) (bs : List (BitVec 8)) (n c : Nat) (hn : n = bs.length) (h4 : n ≤ 7) {A : Option Addr} (hr : Rd w A (bs.map v8)) :
    Calls Try.prog 48 #[.slice A n c] w fun e w' => e = .returned (.int .i64 (bigL bs : Nat)) ∧ w' = w := by
  have HN := Lib.hid hn
  have HR := Lib.hid hr
  clear hn hr
  have hn1 := IntWalk.i64_in ((n : Int) - 1) (by omega)
  go_enter Try.func48, Try.ntmps48
  go_wp2
  go_loop [3, 4] (fun s3 s4 => ∃ i : Nat, i ≤ n ∧ s4 = .int .i64 ((i : Int) - 1) ∧ s3 = .int .i64 (bigL (bs.drop i) : Nat)) (fun _ i => (intOf i + 1).toNat)
  case atStart => exact ⟨n, by omega, by simp [hn1], by rw [List.drop_eq_nil_of_le (by rw [HN.out]; exact Nat.le_refl _)]; rfl⟩
  case round =>
    obtain ⟨i, hi, rfl, rfl⟩ := hrel
    by_cases hlt : 0 < i
    · obtain ⟨j, rfl⟩ : ∃ j, i = j + 1 := ⟨i - 1, by omega⟩
      have hge : (0 : Int) ≤ ((j + 1 : Nat) : Int) - 1 := by omega
      have hlt' : ((j + 1 : Nat) : Int) - 1 < (n : Int) := by omega
      have hil : j < bs.length := by have := HN.out; omega
      obtain ⟨x, hx⟩ : ∃ x, x = bs.getD j 0#8 := ⟨_, rfl⟩
      obtain ⟨g, off, rfl, hc⟩ := Rd_cell HR.out j (v8_at bs j hil)
      rw [← hx] at hc
      have hlB := bigL_lt (bs.drop (j + 1))
      have ST : bigL (bs.drop j) = x.toNat + 256 * bigL (bs.drop (j + 1)) := by
        rw [List.drop_eq_getElem_cons hil, bigL, hx]; simp [hil]
      have hbound : 256 * bigL (bs.drop (j + 1)) + x.toNat ≤ 9223372036854775807 := by
        have h1 : (256 : Nat) ^ (bs.drop (j + 1)).length ≤ 256 ^ 6 := Nat.pow_le_pow_right (by omega) (by rw [List.length_drop, ← HN.out]; omega)
        have := x.isLt
        omega
      have ST := Lib.hid ST
      obtain ⟨q, hq⟩ : ∃ q, q = bigL (bs.drop (j + 1)) := ⟨_, rfl⟩
      rw [← hq] at hbound hlB ⊢
      have HQ := Lib.hid hq
      have e1 : (n8 x) = (x.toNat : Int) := rfl
      rw [e1] at hc
      obtain ⟨y, hy⟩ : ∃ y, y = x.toNat := ⟨_, rfl⟩
      rw [← hy] at hc hbound
      have HY := Lib.hid hy
      have e2 : ((j + 1 : Nat) : Int) - 1 = (j : Int) := by omega
      have b1 := IntWalk.i64_in (256 * (q : Int)) (by omega)
      have b2 := IntWalk.i64_in (256 * (q : Int) + (y : Int)) (by omega)
      have b3 := IntWalk.i64_in ((j : Int) - 1) (by omega)
      rw [e2] at hge hlt' ⊢
      clear hx hil hq hy e1 e2 hlB
      go_wp2
      go_round
      case rel => exact ⟨j, by omega, by simp [b3], by rw [ST.out, ← HQ.out, ← HY.out]; simp only [Int.natCast_add, Int.natCast_mul, Int.add_comm]; rfl⟩
      case measure => simp [intOf, b3]
    · obtain rfl : i = 0 := by omega
      go_wp2
      go_ret
      exact ⟨by simp, rfl⟩
theorem concat_st' (hs : St w0 X L w) (l : List Pt) {S : Option Addr} {k cap : Nat} (hk : k = l.length) (hS : Reads L S (l.map Pt.v)) (hp : ∀ p ∈ l, Reads L p.A (p.bs.map v8)) {bs : List (BitVec 8)} (hb : flat l = bs) {q : Nat} (hq : q = bs.length) (hle : q ≤ 70368744177664) (hkl : k ≤ 1000) :
    Calls Try.prog 28 #[.slice S k cap] w fun e w' => ∃ r B c', e = .returned (.slice B q c') ∧ St w0 X (.own 1 r B q c' (bs.map v8) :: L) w' := by
  subst hb hq
  exact concat_st hs l hk hS hp hle hkl
set_option maxRecDepth 100000 in
set_option maxHeartbeats 4000000 in
theorem fields_st (hs : St w0 X L w) (m : Nat) (l : List Pt) {S : Option Addr} {k cap : Nat} (hk : k = l.length) (hS : Reads L S (l.map Pt.v)) (hp : ∀ p ∈ l, Reads L p.A (p.bs.map v8)) (hle : (flat l).length ≤ m) (hm : m ≤ 70368744177664) (hkl : k ≤ 1000) :
    Calls Try.prog 32 #[.int .i64 m, .slice S k cap] w fun e w' => ∃ r B c', e = .returned (.slice B m c') ∧ St w0 X (.own 1 r B m c' ((flat l ++ zs (m - (flat l).length)).map v8) :: L) w' := by
  have HK := Lib.hid hk
  have HS := Lib.hid hS
  have HP := Lib.hid hp
  obtain ⟨bs, hb⟩ : ∃ bs, bs = flat l := ⟨_, rfl⟩
  obtain ⟨q, hq⟩ : ∃ q, q = bs.length := ⟨_, rfl⟩
  rw [← hb, ← hq] at hle
  rw [← hb, ← hq]
  have HB := Lib.hid hb
  have HQ := Lib.hid hq
  have hw := IntWalk.i64_in ((m : Int) - (q : Int)) (by omega)
  clear hk hS hp hb hq
  go_enter Try.func32, Try.ntmps32
  go_wp2_with (first | ((with_reducible refine Se.isL (o := ⟨some 13, _, _, _, _, _⟩) ?_); (refine Se.toL rfl (Se.apn (o := ⟨some 13, _, _, _, _, _⟩) 0 (m := (m - q)) hs rfl rfl rfl (by first | rfl | omega | (go_num; done)) rfl Try.underlying23 Try.underlying3 Pd.u8i3 rfl rfl ((by omega)) ?_); clear hs; rintro w r B c hs; try simp only [List.set_cons_zero] at hs)) | (go_at_call 28; refine Calls.mono (concat_st' hs l HK.out HS.out HP.out HB.out.symm HQ.out (by omega) hkl) ?_; clear hs; rintro e w ⟨r, B, c, rfl, hs⟩))
  go_ret
  have e : q + (m - q) = m := by omega
  rw [e] at hs
  refine ⟨r, B, c, by rw [← e]; rfl, ?_⟩
  have e2 : (bs ++ zs (m - q)).map v8 = bs.map v8 ++ List.replicate (m - q) (.int .u8 0) := by rw [List.map_append, List.map_replicate]; rfl
  rw [e2]
  exact hs
end Pd
end Go.Proofs.Ytgpbmohfgjmpkaa

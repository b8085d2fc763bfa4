/- CRC-32C as the program's callers use it; and by the reference. No condition but Go's own limits. -/
import Derived.Test.YtgpbmohfgjmpkaaPduCrcW2
set_option linter.unusedSimpArgs false
set_option linter.unusedVariables false
namespace Go.Proofs.Ytgpbmohfgjmpkaa
open Go Go.RowKit
namespace Pd
open Se (St At Reads Cell)
open Li (v8 v8_one Rd rowOf)
open Bv (n8 n16 n32 n64)
variable {w0 w : World} {X : List Nat} {L : List At}
attribute [local irreducible] Calls
theorem bits_x32 (a b : Int) : bits .xor .u32 a b = n32 (BitVec.ofInt 32 a ^^^ BitVec.ofInt 32 b) := by
  have h := congrArg (fun m => m.run Try.prog default) (Bv.xor_n32 a b)
  simp [Op.intBits] at h
  exact h
theorem not_n32 (y : BitVec 32) : bits .xor .u32 IntKind.u32.max (n32 y) = n32 (~~~y) := by
  rw [bits_x32, Bv.of_n32]
  rw [show BitVec.ofInt 32 IntKind.u32.max = BitVec.allOnes 32 by decide, BitVec.allOnes_xor]
theorem odd_n32 (u : BitVec 32) : ((n32 u).tmod 2 == 1) = u.getLsbD 0 := by
  have e : (n32 u).tmod 2 = ((u.toNat % 2 : Nat) : Int) := by
    unfold n32
    rw [Int.tmod_eq_emod_of_nonneg (by omega)]; omega
  rw [e, BitVec.getLsbD, Nat.testBit_zero]
  rcases Nat.mod_two_eq_zero_or_one u.toNat with h | h <;> rw [h] <;> rfl
theorem half_n32 (u : BitVec 32) : BitVec.ofInt 32 ((n32 u).tdiv 2) = u >>> 1 := by
  have e : (n32 u).tdiv 2 = ((u.toNat / 2 : Nat) : Int) := by
    unfold n32
    rw [Int.tdiv_eq_ediv_of_nonneg (by omega)]; omega
  rw [e]
  apply BitVec.eq_of_toNat_eq
  have := u.isLt
  simp [Nat.shiftRight_eq_div_pow]
  omega
set_option maxRecDepth 100000 in
set_option maxHeartbeats 4000000 in
theorem sum32_st (hs : St w0 X L w) (l : List Pt) {S : Option Addr} {k cap : Nat} (hk : k = l.length) (hS : Reads L S (l.map Pt.v)) (hp : ∀ p ∈ l, Reads L p.A (p.bs.map v8)) (hle : ∀ p ∈ l, p.bs.length ≤ 70368744177664) (hkl : k ≤ 1000) {s' : BitVec 32} (hs' : crc (flat l) = s') :
    Calls Try.prog 57 #[.slice S k cap] w fun e w' => e = .returned (v32 s') ∧ St w0 X L w' := by
  obtain ⟨y, hy⟩ : ∃ y, y = crcU 0xFFFFFFFF#32 (flat l) := ⟨_, rfl⟩
  have C := Lib.hid (update32_st hs 0xFFFFFFFF#32 l (cap := cap) hk hS hp hle hkl hy.symm)
  have E := Lib.hid (show ~~~y = s' by rw [hy]; exact hs')
  clear hk hS hp hle hs' hy
  go_enter Try.func57, Try.ntmps57
  go_wp2_with (first | (go_at_call 77; refine Calls.mono (C.out) ?_; clear hs; rintro e w ⟨rfl, hs⟩))
  go_ret
  refine ⟨?_, hs⟩
  rw [← E.out]
  show Ending.returned (.int .u32 _) = _
  rw [not_n32]
section
attribute [local go_sem ↓] Bv.xor_n32
attribute [local go_sem] Bv.of_n32 Bv.wrap_n32_of Bv.of32_n8
set_option maxRecDepth 100000 in
set_option maxHeartbeats 4000000 in
theorem rupdate_any (w : World) (s : BitVec 32) (bs : List (BitVec 8)) {A : Option Addr} {n c : Nat} (hn : n = bs.length) (hA : Rd w A (bs.map v8)) (hle : n ≤ 70368744177664) :
    Calls Try.prog 58 #[v32 s, .slice A n c] w fun e w' => e = .returned (v32 (crcU s bs)) ∧ w' = w := by
  have HN := Lib.hid hn
  have HA := Lib.hid hA
  clear hn hA
  go_enter Try.func58, Try.ntmps58
  go_wp2
  go_loopg [0, 5] n (fun gh s0 s5 wr => ∃ (i : Nat), gh = n - i ∧ i ≤ n ∧ s5 = .int .i64 i ∧ s0 = v32 (crcU s (bs.take i)) ∧ wr = w)
  case atStart => exact ⟨0, rfl, by omega, rfl, rfl, rfl⟩
  case round =>
    obtain ⟨i, rfl, hi, rfl, rfl, rfl⟩ := hrel
    by_cases hlt : i < n
    · have hlt' : (i : Int) < (n : Int) := by omega
      have hil : i < bs.length := by have := HN.out; omega
      obtain ⟨x, hx⟩ : ∃ x, x = bs.getD i 0#8 := ⟨_, rfl⟩
      have hcb := v8_at bs i hil
      rw [← hx] at hcb
      obtain ⟨ga, oa, rfl, hca⟩ := Rd_cell HA.out i hcb
      have ST := Lib.hid (crcU_snoc s bs i hil)
      have ex : bs[i] = x := by rw [hx]; simp [hil]
      rw [ex] at ST
      obtain ⟨y, hy⟩ : ∃ y, y = crcU s (bs.take i) := ⟨_, rfl⟩
      rw [← hy] at ST ⊢
      clear hx hcb ex hy hil
      go_wp2
      obtain ⟨z, hz⟩ : ∃ z, z = y ^^^ x.setWidth 32 := ⟨_, rfl⟩
      rw [← hz]
      go_loopg [0, 6] 8 (fun gh s0 s6 wr' => ∃ (j : Nat), gh = 8 - j ∧ j ≤ 8 ∧ s6 = .int .i64 j ∧ s0 = v32 (crcN j z) ∧ wr' = wr)
      case atStart => exact ⟨0, rfl, by omega, rfl, rfl, rfl⟩
      case round =>
        obtain ⟨j, rfl, hj, rfl, rfl, rfl⟩ := hrel
        by_cases hlj : j < 8
        · have hlj' : (j : Int) < 8 := by omega
          obtain ⟨u, hu⟩ : ∃ u, u = crcN j z := ⟨_, rfl⟩
          have ST2 := Lib.hid (crcN_succ j z)
          rw [← hu] at ST2 ⊢
          clear hu
          have hodd := odd_n32 u
          have HH := Lib.hid (half_n32 u)
          cases hb : u.getLsbD 0 with
          | true =>
            rw [hb] at hodd
            have ST3 : Hid (crcN (j + 1) z = (u >>> 1) ^^^ 2197175160#32) := Lib.hid (by rw [ST2.out]; unfold crc1; rw [if_pos hb]; rfl)
            clear hb
            go_wp2
            go_roundg (8 - (j + 1))
            case measure => omega
            case rel => exact ⟨j + 1, rfl, by omega, by go_num, by rw [ST3.out, ← HH.out], rfl⟩
          | false =>
            rw [hb] at hodd
            have ST3 : Hid (crcN (j + 1) z = (u >>> 1)) := Lib.hid (by rw [ST2.out]; unfold crc1; rw [if_neg (by rw [hb]; simp)]; simp)
            clear hb
            go_wp2
            go_roundg (8 - (j + 1))
            case measure => omega
            case rel => exact ⟨j + 1, rfl, by omega, by go_num, by rw [ST3.out, ← HH.out], rfl⟩
        · obtain rfl : j = 8 := by omega
          have e : crcN 8 z = crcU s (bs.take (i + 1)) := by rw [ST.out, hz]; rfl
          rw [e]
          go_wp2_with fail
          go_roundg (n - (i + 1))
          case measure => omega
          case rel => exact ⟨i + 1, rfl, by omega, by go_num, rfl, rfl⟩
    · obtain rfl : i = n := by omega
      have e : crcU s (bs.take i) = crcU s bs := by rw [HN.out, List.take_length]
      rw [e]
      go_wp2
      go_ret
      exact ⟨rfl, rfl⟩
end
set_option maxRecDepth 100000 in
set_option maxHeartbeats 4000000 in
theorem crc_st (hs : St w0 X L w) {bs : List (BitVec 8)} {A : Option Addr} {n c : Nat} (hn : n = bs.length) (hA : Reads L A (bs.map v8)) (hle : n ≤ 70368744177664) {s' : BitVec 32} (hs' : crc bs = s') :
    Calls Try.prog 31 #[.slice A n c] w fun e w' => e = .returned (v32 s') ∧ St w0 X L w' := by
  have HA := Lib.hid hA
  have HL := Lib.hid (show ∀ p ∈ [(⟨A, c, bs⟩ : Pt)], p.bs.length ≤ 70368744177664 by intro p hp; rw [List.mem_singleton.1 hp]; show bs.length ≤ _; omega)
  have HE := Lib.hid (show crc (flat [(⟨A, c, bs⟩ : Pt)]) = s' by simp [flat, hs'])
  subst hn
  clear hA hle hs'
  go_enter Try.func31, Try.ntmps31
  go_wp2_with (first | ((with_reducible refine Se.isL (o := ⟨some 4, _, _, _, _, _⟩) ?_); (refine Se.toL rfl (Se.bsv (o := ⟨some 4, _, _, _, _, _⟩) hs rfl Try.underlying84 bysi rfl ([.slice A _ c]) (by rfl) (by rfl) (by decide) (by decide) (by simp [Value.oneCell']) ?_); clear hs; rintro w g4 - hs)) | (go_at_call 57; refine Calls.mono (sum32_st hs [⟨A, c, bs⟩] rfl (Reads.blk 0 rfl) (fun p hp => by rw [List.mem_singleton.1 hp]; exact HA.out.cons _) HL.out (by simp) HE.out) ?_; clear hs; rintro e w ⟨rfl, hs⟩))
  go_ret
  exact ⟨rfl, hs.drop⟩
set_option maxRecDepth 100000 in
set_option maxHeartbeats 4000000 in
theorem rcrc_any (w : World) (bs : List (BitVec 8)) {A : Option Addr} {n c : Nat} (hn : n = bs.length) (hA : Rd w A (bs.map v8)) (hle : n ≤ 70368744177664) :
    Calls Try.prog 44 #[.slice A n c] w fun e w' => e = .returned (v32 (crc bs)) ∧ w' = w := by
  have C := Lib.hid (rupdate_any w 0xFFFFFFFF#32 bs (c := c) hn hA hle)
  have E := Lib.hid (show n32 (BitVec.ofInt 32 4294967295 ^^^ crcU 0xFFFFFFFF#32 bs) = n32 (crc bs) by
    unfold crc
    rw [show BitVec.ofInt 32 4294967295 = BitVec.allOnes 32 by decide, BitVec.allOnes_xor])
  obtain ⟨y, hy⟩ : ∃ y, y = crcU 0xFFFFFFFF#32 bs := ⟨_, rfl⟩
  rw [← hy] at C E
  clear hn hA hy
  go_enter Try.func44, Try.ntmps44
  go_wp2_with (first | (go_at_call 58; refine Calls.mono (C.out) ?_; rintro e w' ⟨rfl, rfl⟩))
  go_ret
  refine ⟨?_, rfl⟩
  show Ending.returned (.int .u32 _) = .returned (.int .u32 _)
  rw [← E.out, bits_x32, Bv.of_n32]
end Pd
end Go.Proofs.Ytgpbmohfgjmpkaa

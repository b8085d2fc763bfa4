/- The walks of CRC-32C: the program's, by a table, and the reference's, bit by bit. No condition but Go's own limits. -/
import Derived.Test.YtgpbmohfgjmpkaaPduSl2
set_option linter.unusedSimpArgs false
set_option linter.unusedVariables false
namespace Go.Proofs.Ytgpbmohfgjmpkaa
open Go Go.RowKit
namespace Pd
open Se (St At Reads Cell)
open Li (v8 v8_one Rd rowOf)
open Bv (n8 n16 n32 n64)
variable {w0 w : World} {X : List Nat} {L : List At}
attribute [local irreducible] Calls
theorem crcN_succ : ∀ (n : Nat) (s : BitVec 32), crcN (n + 1) s = crc1 (crcN n s)
  | 0, _ => rfl
  | n + 1, s => by rw [crcN, crcN_succ n]; rfl
abbrev v32 (x : BitVec 32) : Value := .int .u32 (n32 x)
section
attribute [local go_sem ↓] Bv.xor_n32 Bv.and_n32 Bv.mul_n32 Bv.shr_n32
attribute [local go_sem] Bv.of_n32
set_option maxRecDepth 100000 in
set_option maxHeartbeats 4000000 in
theorem right_any (x : BitVec 32) (w : World) : Calls Try.prog 82 #[v32 x] w fun e w' => e = .returned (v32 (crcN 8 x)) ∧ w' = w := by
  go_enter Try.func82, Try.ntmps82
  go_wp2
  go_loop [0, 3] (fun s0 s3 => ∃ k : Nat, k ≤ 8 ∧ s3 = .int .i64 k ∧ s0 = v32 (crcN k x)) (fun _ i => 8 - (intOf i).toNat)
  case atStart => exact ⟨0, by omega, rfl, rfl⟩
  case round =>
    obtain ⟨k, hk, rfl, rfl⟩ := hrel
    by_cases hlt : k < 8
    · have hlt' : (k : Int) < 8 := by omega
      have ST := Lib.hid ((crcN_succ k x).trans (crc1_mul _).symm)
      go_wp2
      go_round
      case rel => exact ⟨k + 1, by omega, by go_num, by rw [ST.out]; rfl⟩
      case measure => simp [intOf]; omega
    · go_wp2
      go_ret
      obtain rfl : k = 8 := by omega
      exact ⟨rfl, rfl⟩
end
section
attribute [local go_sem] Bv.wrap_n32_of
set_option maxRecDepth 100000 in
set_option maxHeartbeats 4000000 in
theorem table1_any (b : Nat) (hb : b < 256) (w : World) : Calls Try.prog 81 #[.int .i64 b] w fun e w' => e = .returned (v32 (crcN 8 (BitVec.ofNat 32 b))) ∧ w' = w := by
  have C := Lib.hid (right_any (BitVec.ofNat 32 b))
  go_enter Try.func81, Try.ntmps81
  go_wp2_with (first | (go_at_call 82; refine Calls.mono (C.out _) ?_; rintro e w' ⟨rfl, rfl⟩))
  go_ret
  exact ⟨rfl, rfl⟩
end
def crcT (n : Nat) : List Value := (List.range n).map fun b => v32 (crcN 8 (BitVec.ofNat 32 b))
theorem crcT_length (n : Nat) : (crcT n).length = n := by simp [crcT]
theorem crcT_succ (n : Nat) : crcT (n + 1) = crcT n ++ [v32 (crcN 8 (BitVec.ofNat 32 n))] := by simp [crcT, List.range_succ]
theorem zeroT : (Try.prog.info? 97).bind (fun i => i.zero.map (·.cells.toList)) = some (rowOf (.int .u32 0) 256 (crcT 0)) := by kernel_rfl
set_option maxRecDepth 100000 in
set_option maxHeartbeats 4000000 in
theorem table_st (hs : St w0 X L w) {T : List Value} (hT : T = crcT 256) : Calls Try.prog 80 #[.func (.func 81) #[] #[]] w fun e w' => e = .returned (.agg T.toArray) ∧ St w0 X L w' := by
  obtain ⟨R, hR⟩ : ∃ R : Nat → List Value, R = fun k => rowOf (.int .u32 0) 256 (crcT k) := ⟨_, rfl⟩
  have Z := Lib.hid (show (Try.prog.info? 97).bind (fun i => i.zero.map (·.cells.toList)) = some (R 0) by rw [hR]; exact zeroT)
  have RL := Lib.hid (show ∀ k, k ≤ 256 → (R k).length = 256 by intro k hk; rw [hR]; exact Li.rowOf_length _ _ _ (by rw [crcT_length]; exact hk))
  have RS := Lib.hid (show ∀ k, k < 256 → (R k).set k (v32 (crcN 8 (BitVec.ofNat 32 k))) = R (k + 1) by
    intro k hk; rw [hR]; have := Li.rowOf_set (.int .u32 0) 256 (crcT k) (by rw [crcT_length]; exact hk) (v32 (crcN 8 (BitVec.ofNat 32 k))); rw [crcT_length, ← crcT_succ] at this; exact this)
  have RE := Lib.hid (show R 256 = T by rw [hR, hT]; exact Li.rowOf_full _ _ _ (crcT_length 256))
  have TO := Lib.hid (show ∀ v ∈ T, v.oneCell' = true by rw [hT]; intro v hv; obtain ⟨_, _, rfl⟩ := List.mem_map.1 hv; rfl)
  have TL := Lib.hid (show T.length = 256 by rw [hT, crcT_length])
  clear hR hT
  go_enter Try.func80, Try.ntmps80
  go_upto_region 2 with (first | ((with_reducible refine Se.isL (o := ⟨some 2, _, _, _, _, _⟩) ?_); (refine Se.toL rfl (Se.al (o := ⟨some 2, _, _, _, _, _⟩) hs rfl (Z.out) ?_); clear hs; rintro w g2 - hs)))
  go_loopg [4] 256 (fun gh s4 wr => ∃ k : Nat, gh = 256 - k ∧ k ≤ 256 ∧ s4 = .int .i64 k ∧ St w0 X (.blk g2 97 (R k) :: L) wr)
  case atStart => exact ⟨0, rfl, by omega, rfl, hs⟩
  case round =>
    clear hs
    rename World => w
    obtain ⟨k, rfl, hk, rfl, hs⟩ := hrel
    by_cases hlt : k < 256
    · have hlt' : (k : Int) < 256 := by omega
      have C := Lib.hid (fun w => table1_any k hlt w)
      have LE := Lib.hid (show k < (R k).length by rw [RL.out k hk]; exact hlt)
      obtain ⟨y, hy⟩ : ∃ y, y = crcN 8 (BitVec.ofNat 32 k) := ⟨_, rfl⟩
      have RS1 := Lib.hid (RS.out k hlt)
      rw [← hy] at C RS1
      clear hy
      go_wp2_with (first | ((with_reducible refine Se.isL (o := ⟨none, _, _, _, _, _⟩) ?_); ((first | refine Se.toL rfl (Se.so 0 (v := .int _ _) hs rfl rfl rfl rfl rfl (by kernel_rfl) (LE.out) ?_) | refine Se.toL rfl (Se.so 0 (v := .bool _) hs rfl rfl rfl rfl rfl (by kernel_rfl) (LE.out) ?_) | refine Se.toL rfl (Se.so 0 (v := .slice _ _ _) hs rfl rfl rfl rfl rfl (by kernel_rfl) (LE.out) ?_) | refine Se.toL rfl (Se.so 0 (v := .pointer _) hs rfl rfl rfl rfl rfl (by kernel_rfl) (LE.out) ?_) | refine Se.toL rfl (Se.so 0 (v := .string _) hs rfl rfl rfl rfl rfl (by kernel_rfl) (LE.out) ?_) | refine Se.toL rfl (Se.so 0 (v := .map _) hs rfl rfl rfl rfl rfl (by kernel_rfl) (LE.out) ?_) | refine Se.toL rfl (Se.so 0 (v := .func _ _ _) hs rfl rfl rfl rfl rfl (by kernel_rfl) (LE.out) ?_) | refine Se.toL rfl (Se.so 0 (v := .nilFunc) hs rfl rfl rfl rfl rfl (by kernel_rfl) (LE.out) ?_)); clear hs; intro w hs; try simp only [List.set_cons_zero] at hs)) | (go_at_call 81; refine Calls.mono (C.out _) ?_; rintro e w' ⟨rfl, rfl⟩))
      rw [RS1.out] at hs
      go_roundg (256 - (k + 1))
      case measure => omega
      case rel => exact ⟨k + 1, rfl, by omega, by go_num, hs⟩
    · obtain rfl : k = 256 := by omega
      rw [RE.out] at hs
      go_wp2_with (first | ((with_reducible refine Se.isL (o := ⟨some 13, _, _, _, _, _⟩) ?_); (refine Se.toL rfl (Se.ldw (o := ⟨some 13, _, _, _, _, _⟩) hs rfl rfl ((Reads.blk 0 rfl)) ((by rw [TL.out]; kernel_rfl)) (by kernel_rfl) ?_))) | ((with_reducible refine Se.isL (o := ⟨none, _, _, _, _, _⟩) ?_); (refine Se.toL rfl (Se.sow 0 hs rfl rfl rfl rfl (TO.out) ((by rw [TL.out]; kernel_rfl)) (rfl) ?_); clear hs; intro w hs; try simp only [List.set_cons_zero] at hs)))
      refine Li.bodyPost_blk (by rfl) (by rfl) (hs.hold (.blk g2 97 T) (by simp)) Try.underlying97 rfl (by rw [TL.out]; kernel_rfl) rfl ⟨rfl, ?_⟩
      exact hs.drop
end Pd
end Go.Proofs.Ytgpbmohfgjmpkaa

/- The walks of CRC-32C: the program's, by a table, and the reference's, bit by bit. No condition but Go's own limits. -/
import Derived.Test.YtdngfcmakjlamaaPduSl
set_option linter.unusedSimpArgs false
set_option linter.unusedVariables false
namespace Go.Proofs.Ytdngfcmakjlamaa
open Go Go.RowKit
namespace Pd
open Se (St At Reads Cell)
open Li (v8 v8_one Rd rowOf)
open Bv (n8 n16 n32 n64)
variable {w0 w : World} {X : List Nat} {L : List At}
attribute [local irreducible] Calls
theorem crcN_succ : ∀ (n : Nat) (s : BitVec 32), crcN (n + 1) s = crc1 (crcN n s)
 | 0, _ => rfl
 | n + 1, s => by rw [crcN, crcN_succ n]; rfl
abbrev v32 (x : BitVec 32) : Value := .int .u32 (n32 x)
section
attribute [local go_sem ↓] Bv.xor_n32 Bv.and_n32 Bv.mul_n32 Bv.shr_n32
attribute [local go_sem] Bv.of_n32
set_option maxRecDepth 100000 in
set_option maxHeartbeats 4000000 in
theorem right_any (x : BitVec 32) (w : World) : Calls Try.prog 101 #[v32 x] w fun e w' => e = .returned (v32 (crcN 8 x)) ∧ w' = w := by
 go_enter Try.func101, Try.ntmps101
 go_wp2
 go_loop [0, 3] (fun s0 s3 => ∃ k : Nat, k ≤ 8 ∧ s3 = .int .i64 k ∧ s0 = v32 (crcN k x)) (fun _ i => 8 - (intOf i).toNat)
 case atStart => exact ⟨0, by omega, rfl, rfl⟩
 case round =>
  obtain ⟨k, hk, rfl, rfl⟩ := hrel
  by_cases hlt : k < 8
  ·have hlt' : (k : Int) < 8 := by omega
   have ST := Lib.hid ((crcN_succ k x).trans (crc1_mul _).symm)
   go_wp2
   go_round
   case rel => exact ⟨k + 1, by omega, by go_num, by rw [ST.out]; rfl⟩
   case measure => simp [intOf]; omega
  ·go_wp2
   go_ret
   obtain rfl : k = 8 := by omega
   exact ⟨rfl, rfl⟩
end
section
attribute [local go_sem] Bv.wrap_n32_of
set_option maxRecDepth 100000 in
set_option maxHeartbeats 4000000 in
theorem table1_any (b : Nat) (hb : b < 256) (w : World) : Calls Try.prog 100 #[.int .i64 b] w fun e w' => e = .returned (v32 (crcN 8 (BitVec.ofNat 32 b))) ∧ w' = w := by
 have C := Lib.hid (right_any (BitVec.ofNat 32 b))
 go_enter Try.func100, Try.ntmps100
 go_wp2_with (first | (go_at_call 101; refine Calls.mono (C.out _) ?_; rintro e w' ⟨rfl, rfl⟩))
 go_ret
 exact ⟨rfl, rfl⟩
end
def crcT (n : Nat) : List Value := (List.range n).map fun b => v32 (crcN 8 (BitVec.ofNat 32 b))
theorem crcT_length (n : Nat) : (crcT n).length = n := by simp [crcT]
theorem crcT_succ (n : Nat) : crcT (n + 1) = crcT n ++ [v32 (crcN 8 (BitVec.ofNat 32 n))] := by simp [crcT, List.range_succ]
theorem zeroT : (Try.prog.info? 137).bind (fun i => i.zero.map (·.cells.toList)) = some (rowOf (.int .u32 0) 256 (crcT 0)) := by kernel_rfl
set_option maxRecDepth 100000 in
set_option maxHeartbeats 4000000 in
theorem table_st (hs : St w0 X L w) {T : List Value} (hT : T = crcT 256) : Calls Try.prog 99 #[.func (.func 100) #[] #[]] w fun e w' => e = .returned (.agg T.toArray) ∧ St w0 X L w' := by
 obtain ⟨R, hR⟩ : ∃ R : Nat → List Value, R = fun k => rowOf (.int .u32 0) 256 (crcT k) := ⟨_, rfl⟩
 have Z := Lib.hid (show (Try.prog.info? 137).bind (fun i => i.zero.map (·.cells.toList)) = some (R 0) by rw [hR]; exact zeroT)
 have RL := Lib.hid (show ∀ k, k ≤ 256 → (R k).length = 256 by intro k hk; rw [hR]; exact Li.rowOf_length _ _ _ (by rw [crcT_length]; exact hk))
 have RS := Lib.hid (show ∀ k, k < 256 → (R k).set k (v32 (crcN 8 (BitVec.ofNat 32 k))) = R (k + 1) by
  intro k hk; rw [hR]; have := Li.rowOf_set (.int .u32 0) 256 (crcT k) (by rw [crcT_length]; exact hk) (v32 (crcN 8 (BitVec.ofNat 32 k))); rw [crcT_length, ← crcT_succ] at this; exact this)
 have RE := Lib.hid (show R 256 = T by rw [hR, hT]; exact Li.rowOf_full _ _ _ (crcT_length 256))
 have TO := Lib.hid (show ∀ v ∈ T, v.oneCell' = true by rw [hT]; intro v hv; obtain ⟨_, _, rfl⟩ := List.mem_map.1 hv; rfl)
 have TL := Lib.hid (show T.length = 256 by rw [hT, crcT_length])
 clear hR hT
 go_enter Try.func99, Try.ntmps99
 go_upto_region 2 with (first | ((with_reducible refine Se.isL (o := ⟨some 2, _, _, _, _, _⟩) ?_); (refine Se.toL rfl (Se.al (o := ⟨some 2, _, _, _, _, _⟩) hs rfl (Z.out) ?_); clear hs; rintro w g2 - hs)))
 go_loopg [4] 256 (fun gh s4 wr => ∃ k : Nat, gh = 256 - k ∧ k ≤ 256 ∧ s4 = .int .i64 k ∧ St w0 X (.blk g2 137 (R k) :: L) wr)
 case atStart => exact ⟨0, rfl, by omega, rfl, hs⟩
 case round =>
  clear hs
  rename World => w
  obtain ⟨k, rfl, hk, rfl, hs⟩ := hrel
  by_cases hlt : k < 256
  ·have hlt' : (k : Int) < 256 := by omega
   have C := Lib.hid (fun w => table1_any k hlt w)
   have LE := Lib.hid (show k < (R k).length by rw [RL.out k hk]; exact hlt)
   obtain ⟨y, hy⟩ : ∃ y, y = crcN 8 (BitVec.ofNat 32 k) := ⟨_, rfl⟩
   have RS1 := Lib.hid (RS.out k hlt)
   rw [← hy] at C RS1
   clear hy
   go_wp2_with (first | ((with_reducible refine Se.isL (o := ⟨none, _, _, _, _, _⟩) ?_); ((first | refine Se.toL rfl (Se.so 0 (v := .int _ _) hs rfl rfl rfl rfl rfl (by kernel_rfl) (LE.out) ?_) | refine Se.toL rfl (Se.so 0 (v := .bool _) hs rfl rfl rfl rfl rfl (by kernel_rfl) (LE.out) ?_) | refine Se.toL rfl (Se.so 0 (v := .slice _ _ _) hs rfl rfl rfl rfl rfl (by kernel_rfl) (LE.out) ?_) | refine Se.toL rfl (Se.so 0 (v := .pointer _) hs rfl rfl rfl rfl rfl (by kernel_rfl) (LE.out) ?_) | refine Se.toL rfl (Se.so 0 (v := .string _) hs rfl rfl rfl rfl rfl (by kernel_rfl) (LE.out) ?_) | refine Se.toL rfl (Se.so 0 (v := .map _) hs rfl rfl rfl rfl rfl (by kernel_rfl) (LE.out) ?_) | refine Se.toL rfl (Se.so 0 (v := .func _ _ _) hs rfl rfl rfl rfl rfl (by kernel_rfl) (LE.out) ?_) | refine Se.toL rfl (Se.so 0 (v := .nilFunc) hs rfl rfl rfl rfl rfl (by kernel_rfl) (LE.out) ?_)); clear hs; intro w hs; try simp only [List.cons_append, List.nil_append, List.set_cons_zero] at hs)) | (go_at_call 100; refine Calls.mono (C.out _) ?_; rintro e w' ⟨rfl, rfl⟩))
   rw [RS1.out] at hs
   go_roundg (256 - (k + 1))
   case measure => omega
   case rel => exact ⟨k + 1, rfl, by omega, by go_num, hs⟩
  ·obtain rfl : k = 256 := by omega
   rw [RE.out] at hs
   go_wp2_with (first | ((with_reducible refine Se.isL (o := ⟨some 13, _, _, _, _, _⟩) ?_); (refine Se.toL rfl (Se.ldw (o := ⟨some 13, _, _, _, _, _⟩) hs rfl rfl ((Reads.blk 0 rfl)) ((by rw [TL.out]; kernel_rfl)) (by kernel_rfl) ?_))) | ((with_reducible refine Se.isL (o := ⟨none, _, _, _, _, _⟩) ?_); (refine Se.toL rfl (Se.sow 0 hs rfl rfl rfl rfl (TO.out) ((by rw [TL.out]; kernel_rfl)) (rfl) ?_); clear hs; intro w hs; try simp only [List.cons_append, List.nil_append, List.set_cons_zero] at hs)))
   refine Li.bodyPost_blk (by rfl) (by rfl) (hs.hold (.blk g2 137 T) (by simp)) Try.underlying137 rfl (by rw [TL.out]; kernel_rfl) rfl ⟨rfl, ?_⟩
   exact hs.drop
end Pd
end Go.Proofs.Ytdngfcmakjlamaa
/- CRC-32C of parts, by the program; and by the reference. No condition but Go's own limits. -/
namespace Go.Proofs.Ytdngfcmakjlamaa
open Go Go.RowKit
namespace Pd
open Se (St At Reads Cell)
open Li (v8 v8_one Rd rowOf)
open Bv (n8 n16 n32 n64)
variable {w0 w : World} {X : List Nat} {L : List At}
attribute [local irreducible] Calls
theorem crcU_append (s : BitVec 32) (a b : List (BitVec 8)) : crcU s (a ++ b) = crcU (crcU s a) b := by unfold crcU; rw [List.foldl_append]
theorem crcU_snoc (s : BitVec 32) (bs : List (BitVec 8)) (i : Nat) (h : i < bs.length) : crcU s (bs.take (i + 1)) = crcB (crcU s (bs.take i)) bs[i] := by
 rw [List.take_succ_eq_append_getElem h, crcU_append]; rfl
section
attribute [local go_sem ↓] Bv.xor_n32 Bv.xor_n8 Bv.shr_n32
attribute [local go_sem] Bv.of_n32 Bv.of_n8 Bv.wrap_n8_of Bv.of8_n32
set_option maxRecDepth 100000 in
set_option maxHeartbeats 4000000 in
theorem table2_any (s : BitVec 32) (b : BitVec 8) (g : Nat) (w : World) (hc : ∀ i, i < 256 → w.cell? ⟨g, i, none⟩ = some (v32 (crcN 8 (BitVec.ofNat 32 i)))) : Calls Try.prog 103 #[v32 s, .int .u8 (n8 b), .pointer (some ⟨g, 0, none⟩)] w fun e w' => e = .returned (v32 (crcB s b)) ∧ w' = w := by
 have ST := Lib.hid (crcB_table s b)
 obtain ⟨y, hy⟩ : ∃ y, y = s.setWidth 8 ^^^ b := ⟨_, rfl⟩
 have h1 : 0 ≤ n8 y := Bv.n8_lo y
 have h2 : n8 y < 256 := Bv.n8_hi y
 have e1 : BitVec.ofNat 32 y.toNat = y.setWidth 32 := by
  apply BitVec.eq_of_toNat_eq; simp
 have hcy := hc y.toNat y.isLt
 rw [e1] at hcy
 have e2 : (n8 y).toNat = y.toNat := by unfold n8; simp
 rw [← e2] at hcy
 rw [hy] at h1 h2 hcy
 clear hc e1 e2 hy
 go_enter Try.func103, Try.ntmps103
 go_wp2
 go_ret
 exact ⟨by rw [← ST.out]; rfl, rfl⟩
end
set_option maxRecDepth 100000 in
set_option maxHeartbeats 4000000 in
theorem updated_st (hs : St w0 X L w) (s : BitVec 32) (l : List Pt) {S : Option Addr} {k cap : Nat} (hk : k = l.length) (hS : Reads L S (l.map Pt.v)) (hp : ∀ p ∈ l, Reads L p.A (p.bs.map v8)) (hle : ∀ p ∈ l, p.bs.length ≤ 70368744177664) (hkl : k ≤ 1000) {T : Nat} (hT : Reads L (some ⟨T, 0, none⟩) (crcT 256)) {s' : BitVec 32} (hs' : crcU s (flat l) = s') :
  Calls Try.prog 102 #[v32 s, .slice S k cap, .func (.func 103) #[] #[.pointer (some ⟨T, 0, none⟩)]] w fun e w' => e = .returned (v32 s') ∧ St w0 X L w' := by
 have HK := Lib.hid hk
 have HS := Lib.hid hS
 have HP := Lib.hid hp
 have HL := Lib.hid hle
 have HT := Lib.hid (show ∀ w, St w0 X L w → ∀ i, i < 256 → w.cell? ⟨T, i, none⟩ = some (v32 (crcN 8 (BitVec.ofNat 32 i))) by
  intro w hw i hi
  refine hT.cell0 i ?_ w hw.hold
  simp [crcT, hi])
 obtain ⟨F, hF⟩ : ∃ F : Nat → BitVec 32, F = fun i => crcU s (flat (l.take i)) := ⟨_, rfl⟩
 have F0 := Lib.hid (show F 0 = s by rw [hF]; rfl)
 have FK := Lib.hid (show F k = s' by rw [hF, hk]; simp [hs'])
 have FS := Lib.hid (show ∀ i (h : i < l.length), F (i + 1) = crcU (F i) l[i].bs by intro i h; rw [hF]; simp only [flat_snoc l i h, crcU_append])
 clear hk hS hp hF hle hT hs'
 go_enter Try.func102, Try.ntmps102
 go_wp2_with fail
 go_loopg [0, 13] k (fun gh s0 s13 wr => ∃ (i : Nat), gh = k - i ∧ i ≤ k ∧ s13 = .int .i64 i ∧ s0 = v32 (F i) ∧ St w0 X L wr)
 case atStart => exact ⟨0, rfl, by omega, rfl, by rw [F0.out], hs⟩
 case round =>
  clear hs
  rename World => w
  obtain ⟨i, rfl, hi, rfl, rfl, hs⟩ := hrel
  by_cases hlt : i < k
  ·have hlt' : (i : Int) < (k : Int) := by omega
   have hil : i < l.length := by have := HK.out; omega
   obtain ⟨p, hpe⟩ : ∃ p, p = l[i] := ⟨_, rfl⟩
   have hb : (l.map Pt.v)[i]? = some (.slice p.A p.bs.length p.c) := by rw [hpe]; simp [hil]; rfl
   have hpl : p ∈ l := by rw [hpe]; exact List.getElem_mem hil
   have FS1 := FS.out i hil
   rw [← hpe] at FS1
   have hpA := HP.out p hpl
   have hpL := HL.out p hpl
   obtain ⟨A, c, bs⟩ := p
   obtain ⟨f, hf⟩ : ∃ f, f = F i := ⟨_, rfl⟩
   rw [← hf] at FS1 ⊢
   obtain ⟨n, hn⟩ : ∃ n, n = bs.length := ⟨_, rfl⟩
   rw [← hn] at hb hpL
   obtain ⟨g, off, rfl, hcS⟩ := Rd_cell (HS.out w hs.hold) i hb
   have HN := Lib.hid hn
   have HA := Lib.hid hpA
   have FS1 := Lib.hid FS1
   clear hb hpe hil hpl hpA hf hn
   go_wp2_with fail
   go_loopg [0, 19] n (fun gh s0 s19 wr => ∃ (j : Nat), gh = n - j ∧ j ≤ n ∧ s19 = .int .i64 j ∧ s0 = v32 (crcU f (bs.take j)) ∧ St w0 X L wr)
   case atStart => exact ⟨0, rfl, by omega, rfl, rfl, hs⟩
   case round =>
    clear hs hcS
    rename World => w
    obtain ⟨j, rfl, hj, rfl, rfl, hs⟩ := hrel
    by_cases hlj : j < n
    ·have hlj' : (j : Int) < (n : Int) := by omega
     have hjl : j < bs.length := by have := HN.out; omega
     obtain ⟨x, hx⟩ : ∃ x, x = bs.getD j 0#8 := ⟨_, rfl⟩
     have hcb := v8_at bs j hjl
     rw [← hx] at hcb
     obtain ⟨ga, oa, rfl, hca⟩ := Rd_cell (HA.out w hs.hold) j hcb
     have ST := Lib.hid (crcU_snoc f bs j hjl)
     have ex : bs[j] = x := by rw [hx]; simp [hjl]
     rw [ex] at ST
     have C := Lib.hid (table2_any (crcU f (bs.take j)) x T w (HT.out w hs))
     obtain ⟨y, hy⟩ : ∃ y, y = crcU f (bs.take j) := ⟨_, rfl⟩
     rw [← hy] at ST C ⊢
     clear hx hcb ex hy hjl
     go_wp2_with (first | (go_at_call 103; refine Calls.mono (C.out) ?_; rintro e w' ⟨rfl, rfl⟩))
     go_roundg (n - (j + 1))
     case measure => omega
     case rel => exact ⟨j + 1, rfl, by omega, by go_num, by rw [ST.out], hs⟩
    ·obtain rfl : j = n := by omega
     have e : crcU f (bs.take j) = F (i + 1) := by rw [FS1.out, HN.out, List.take_length]
     rw [e]
     go_wp2_with fail
     go_roundg (k - (i + 1))
     case measure => omega
     case rel => exact ⟨i + 1, rfl, by omega, by go_num, rfl, hs⟩
  ·obtain rfl : i = k := by omega
   rw [FK.out]
   go_wp2_with fail
   go_ret
   exact ⟨rfl, hs⟩
theorem zeroT0 : ∃ Z, (Try.prog.info? 137).bind (fun i => i.zero.map (·.cells.toList)) = some Z ∧ Z.length = 256 := ⟨_, zeroT, by simp [Li.rowOf_length, crcT]⟩
set_option maxRecDepth 100000 in
set_option maxHeartbeats 4000000 in
theorem update32_st (hs : St w0 X L w) (s : BitVec 32) (l : List Pt) {S : Option Addr} {k cap : Nat} (hk : k = l.length) (hS : Reads L S (l.map Pt.v)) (hp : ∀ p ∈ l, Reads L p.A (p.bs.map v8)) (hle : ∀ p ∈ l, p.bs.length ≤ 70368744177664) (hkl : k ≤ 1000) {s' : BitVec 32} (hs' : crcU s (flat l) = s') :
  Calls Try.prog 88 #[v32 s, .slice S k cap] w fun e w' => e = .returned (v32 s') ∧ St w0 X L w' := by
 have HK := Lib.hid hk
 have HS := Lib.hid hS
 have HP := Lib.hid hp
 have HL := Lib.hid hle
 have HE := Lib.hid hs'
 obtain ⟨T, hT⟩ : ∃ T, T = crcT 256 := ⟨_, rfl⟩
 have TT := Lib.hid hT
 have TO := Lib.hid (show ∀ v ∈ T, v.oneCell' = true by rw [hT]; intro v hv; obtain ⟨_, _, rfl⟩ := List.mem_map.1 hv; rfl)
 have TL := Lib.hid (show T.length = 256 by rw [hT, crcT_length])
 obtain ⟨Z, hZ, hZL⟩ := zeroT0
 have HZ := Lib.hid hZ
 have ZL := Lib.hid hZL
 clear hk hS hp hle hs' hT hZ hZL
 go_enter Try.func88, Try.ntmps88
 go_wp2_with (first | ((with_reducible refine Se.isL (o := ⟨some 5, _, _, _, _, _⟩) ?_); (refine Se.toL rfl (Se.al (o := ⟨some 5, _, _, _, _, _⟩) hs rfl (HZ.out) ?_); clear hs; rintro w g5 - hs)) | ((with_reducible refine Se.isL (o := ⟨none, _, _, _, _, _⟩) ?_); (refine Se.toL rfl (Se.sow 0 hs rfl rfl rfl rfl (TO.out) ((by rw [TL.out]; kernel_rfl)) ((by rw [TL.out, ZL.out])) ?_); clear hs; intro w hs; try simp only [List.cons_append, List.nil_append, List.set_cons_zero] at hs)) | (go_at_call 99; refine Calls.mono (table_st hs TT.out) ?_; clear hs; rintro e w ⟨rfl, hs⟩) | (go_at_call 102; refine Calls.mono (updated_st hs s l HK.out (HS.out.cons _) (fun p hp => (HP.out p hp).cons _) HL.out hkl (TT.out ▸ Reads.blk 0 rfl) HE.out) ?_; clear hs; rintro e w ⟨rfl, hs⟩))
 go_ret
 exact ⟨rfl, hs.drop⟩
end Pd
end Go.Proofs.Ytdngfcmakjlamaa
/- CRC-32C as the program's callers use it; and by the reference. No condition but Go's own limits. -/
namespace Go.Proofs.Ytdngfcmakjlamaa
open Go Go.RowKit
namespace Pd
open Se (St At Reads Cell)
open Li (v8 v8_one Rd rowOf)
open Bv (n8 n16 n32 n64)
variable {w0 w : World} {X : List Nat} {L : List At}
attribute [local irreducible] Calls
theorem bits_x32 (a b : Int) : bits .xor .u32 a b = n32 (BitVec.ofInt 32 a ^^^ BitVec.ofInt 32 b) := by
 have h := congrArg (fun m => m.run Try.prog default) (Bv.xor_n32 a b)
 simp [Op.intBits] at h
 exact h
theorem not_n32 (y : BitVec 32) : bits .xor .u32 IntKind.u32.max (n32 y) = n32 (~~~y) := by
 rw [bits_x32, Bv.of_n32]
 rw [show BitVec.ofInt 32 IntKind.u32.max = BitVec.allOnes 32 by decide, BitVec.allOnes_xor]
theorem odd_n32 (u : BitVec 32) : ((n32 u).tmod 2 == 1) = u.getLsbD 0 := by
 have e : (n32 u).tmod 2 = ((u.toNat % 2 : Nat) : Int) := by
  unfold n32
  rw [Int.tmod_eq_emod_of_nonneg (by omega)]; omega
 rw [e, BitVec.getLsbD, Nat.testBit_zero]
 rcases Nat.mod_two_eq_zero_or_one u.toNat with h | h <;> rw [h] <;> rfl
theorem half_n32 (u : BitVec 32) : BitVec.ofInt 32 ((n32 u).tdiv 2) = u >>> 1 := by
 have e : (n32 u).tdiv 2 = ((u.toNat / 2 : Nat) : Int) := by
  unfold n32
  rw [Int.tdiv_eq_ediv_of_nonneg (by omega)]; omega
 rw [e]
 apply BitVec.eq_of_toNat_eq
 have := u.isLt
 simp [Nat.shiftRight_eq_div_pow]
 omega
set_option maxRecDepth 100000 in
set_option maxHeartbeats 4000000 in
theorem sum32_st (hs : St w0 X L w) (l : List Pt) {S : Option Addr} {k cap : Nat} (hk : k = l.length) (hS : Reads L S (l.map Pt.v)) (hp : ∀ p ∈ l, Reads L p.A (p.bs.map v8)) (hle : ∀ p ∈ l, p.bs.length ≤ 70368744177664) (hkl : k ≤ 1000) {s' : BitVec 32} (hs' : crc (flat l) = s') :
  Calls Try.prog 68 #[.slice S k cap] w fun e w' => e = .returned (v32 s') ∧ St w0 X L w' := by
 obtain ⟨y, hy⟩ : ∃ y, y = crcU 0xFFFFFFFF#32 (flat l) := ⟨_, rfl⟩
 have C := Lib.hid (update32_st hs 0xFFFFFFFF#32 l (cap := cap) hk hS hp hle hkl hy.symm)
 have E := Lib.hid (show ~~~y = s' by rw [hy]; exact hs')
 clear hk hS hp hle hs' hy
 go_enter Try.func68, Try.ntmps68
 go_wp2_with (first | (go_at_call 88; refine Calls.mono (C.out) ?_; clear hs; rintro e w ⟨rfl, hs⟩))
 go_ret
 refine ⟨?_, hs⟩
 rw [← E.out]
 show Ending.returned (.int .u32 _) = _
 rw [not_n32]
section
attribute [local go_sem ↓] Bv.xor_n32
attribute [local go_sem] Bv.of_n32 Bv.wrap_n32_of Bv.of32_n8
set_option maxRecDepth 100000 in
set_option maxHeartbeats 4000000 in
theorem rupdate_any (w : World) (s : BitVec 32) (bs : List (BitVec 8)) {A : Option Addr} {n c : Nat} (hn : n = bs.length) (hA : Rd w A (bs.map v8)) (hle : n ≤ 70368744177664) :
  Calls Try.prog 59 #[v32 s, .slice A n c] w fun e w' => e = .returned (v32 (crcU s bs)) ∧ w' = w := by
 have HN := Lib.hid hn
 have HA := Lib.hid hA
 clear hn hA
 go_enter Try.func59, Try.ntmps59
 go_wp2
 go_loopg [0, 5] n (fun gh s0 s5 wr => ∃ (i : Nat), gh = n - i ∧ i ≤ n ∧ s5 = .int .i64 i ∧ s0 = v32 (crcU s (bs.take i)) ∧ wr = w)
 case atStart => exact ⟨0, rfl, by omega, rfl, rfl, rfl⟩
 case round =>
  obtain ⟨i, rfl, hi, rfl, rfl, rfl⟩ := hrel
  by_cases hlt : i < n
  ·have hlt' : (i : Int) < (n : Int) := by omega
   have hil : i < bs.length := by have := HN.out; omega
   obtain ⟨x, hx⟩ : ∃ x, x = bs.getD i 0#8 := ⟨_, rfl⟩
   have hcb := v8_at bs i hil
   rw [← hx] at hcb
   obtain ⟨ga, oa, rfl, hca⟩ := Rd_cell HA.out i hcb
   have ST := Lib.hid (crcU_snoc s bs i hil)
   have ex : bs[i] = x := by rw [hx]; simp [hil]
   rw [ex] at ST
   obtain ⟨y, hy⟩ : ∃ y, y = crcU s (bs.take i) := ⟨_, rfl⟩
   rw [← hy] at ST ⊢
   clear hx hcb ex hy hil
   go_wp2
   obtain ⟨z, hz⟩ : ∃ z, z = y ^^^ x.setWidth 32 := ⟨_, rfl⟩
   rw [← hz]
   go_loopg [0, 6] 8 (fun gh s0 s6 wr' => ∃ (j : Nat), gh = 8 - j ∧ j ≤ 8 ∧ s6 = .int .i64 j ∧ s0 = v32 (crcN j z) ∧ wr' = wr)
   case atStart => exact ⟨0, rfl, by omega, rfl, rfl, rfl⟩
   case round =>
    obtain ⟨j, rfl, hj, rfl, rfl, rfl⟩ := hrel
    by_cases hlj : j < 8
    ·have hlj' : (j : Int) < 8 := by omega
     obtain ⟨u, hu⟩ : ∃ u, u = crcN j z := ⟨_, rfl⟩
     have ST2 := Lib.hid (crcN_succ j z)
     rw [← hu] at ST2 ⊢
     clear hu
     have hodd := odd_n32 u
     have HH := Lib.hid (half_n32 u)
     cases hb : u.getLsbD 0 with
     | true =>
      rw [hb] at hodd
      have ST3 : Hid (crcN (j + 1) z = (u >>> 1) ^^^ 2197175160#32) := Lib.hid (by rw [ST2.out]; unfold crc1; rw [if_pos hb]; rfl)
      clear hb
      go_wp2
      go_roundg (8 - (j + 1))
      case measure => omega
      case rel => exact ⟨j + 1, rfl, by omega, by go_num, by rw [ST3.out, ← HH.out], rfl⟩
     | false =>
      rw [hb] at hodd
      have ST3 : Hid (crcN (j + 1) z = (u >>> 1)) := Lib.hid (by rw [ST2.out]; unfold crc1; rw [if_neg (by rw [hb]; simp)]; simp)
      clear hb
      go_wp2
      go_roundg (8 - (j + 1))
      case measure => omega
      case rel => exact ⟨j + 1, rfl, by omega, by go_num, by rw [ST3.out, ← HH.out], rfl⟩
    ·obtain rfl : j = 8 := by omega
     have e : crcN 8 z = crcU s (bs.take (i + 1)) := by rw [ST.out, hz]; rfl
     rw [e]
     go_wp2_with fail
     go_roundg (n - (i + 1))
     case measure => omega
     case rel => exact ⟨i + 1, rfl, by omega, by go_num, rfl, rfl⟩
  ·obtain rfl : i = n := by omega
   have e : crcU s (bs.take i) = crcU s bs := by rw [HN.out, List.take_length]
   rw [e]
   go_wp2
   go_ret
   exact ⟨rfl, rfl⟩
end
set_option maxRecDepth 100000 in
set_option maxHeartbeats 4000000 in
theorem crc_st (hs : St w0 X L w) {bs : List (BitVec 8)} {A : Option Addr} {n c : Nat} (hn : n = bs.length) (hA : Reads L A (bs.map v8)) (hle : n ≤ 70368744177664) {s' : BitVec 32} (hs' : crc bs = s') :
  Calls Try.prog 57 #[.slice A n c] w fun e w' => e = .returned (v32 s') ∧ St w0 X L w' := by
 have HA := Lib.hid hA
 have HL := Lib.hid (show ∀ p ∈ [(⟨A, c, bs⟩ : Pt)], p.bs.length ≤ 70368744177664 by intro p hp; rw [List.mem_singleton.1 hp]; show bs.length ≤ _; omega)
 have HE := Lib.hid (show crc (flat [(⟨A, c, bs⟩ : Pt)]) = s' by simp [flat, hs'])
 subst hn
 clear hA hle hs'
 go_enter Try.func57, Try.ntmps57
 go_wp2_with (first | ((with_reducible refine Se.isL (o := ⟨some 4, _, _, _, _, _⟩) ?_); (refine Se.toL rfl (Se.bsv (o := ⟨some 4, _, _, _, _, _⟩) hs rfl Try.underlying106 bysi rfl ([.slice A _ c]) (by rfl) (by rfl) (by decide) (by decide) (by simp [Value.oneCell']) ?_); clear hs; rintro w g4 - hs)) | (go_at_call 68; refine Calls.mono (sum32_st hs [⟨A, c, bs⟩] rfl (Reads.blk 0 rfl) (fun p hp => by rw [List.mem_singleton.1 hp]; exact HA.out.cons _) HL.out (by simp) HE.out) ?_; clear hs; rintro e w ⟨rfl, hs⟩))
 go_ret
 exact ⟨rfl, hs.drop⟩
set_option maxRecDepth 100000 in
set_option maxHeartbeats 4000000 in
theorem rcrc_any (w : World) (bs : List (BitVec 8)) {A : Option Addr} {n c : Nat} (hn : n = bs.length) (hA : Rd w A (bs.map v8)) (hle : n ≤ 70368744177664) :
  Calls Try.prog 43 #[.slice A n c] w fun e w' => e = .returned (v32 (crc bs)) ∧ w' = w := by
 have C := Lib.hid (rupdate_any w 0xFFFFFFFF#32 bs (c := c) hn hA hle)
 have E := Lib.hid (show n32 (BitVec.ofInt 32 4294967295 ^^^ crcU 0xFFFFFFFF#32 bs) = n32 (crc bs) by
  unfold crc
  rw [show BitVec.ofInt 32 4294967295 = BitVec.allOnes 32 by decide, BitVec.allOnes_xor])
 obtain ⟨y, hy⟩ : ∃ y, y = crcU 0xFFFFFFFF#32 bs := ⟨_, rfl⟩
 rw [← hy] at C E
 clear hn hA hy
 go_enter Try.func43, Try.ntmps43
 go_wp2_with (first | (go_at_call 59; refine Calls.mono (C.out) ?_; rintro e w' ⟨rfl, rfl⟩))
 go_ret
 refine ⟨?_, rfl⟩
 show Ending.returned (.int .u32 _) = .returned (.int .u32 _)
 rw [← E.out, bits_x32, Bv.of_n32]
theorem rcrc_st (hs : St w0 X L w) (bs : List (BitVec 8)) {A : Option Addr} {n c : Nat} (hn : n = bs.length) (hA : Reads L A (bs.map v8)) (hle : n ≤ 70368744177664) :
  Calls Try.prog 43 #[.slice A n c] w fun e w' => e = .returned (.int .u32 (n32 (crc bs))) ∧ St w0 X L w' :=
 (rcrc_any w bs hn (hA w hs.hold) hle).mono fun e w' h => ⟨h.1, by rw [h.2]; exact hs⟩
end Pd
end Go.Proofs.Ytdngfcmakjlamaa


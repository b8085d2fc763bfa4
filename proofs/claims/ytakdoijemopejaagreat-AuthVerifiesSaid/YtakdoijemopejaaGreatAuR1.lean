/- Layer 38: the reference's names, heads and responses. No condition but Go's own limits. -/
import Derived.Test.YtakdoijemopejaaGreatAuNew
import Derived.Test.YtakdoijemopejaaGreatShaRHm
set_option linter.unusedSimpArgs false
set_option linter.unusedVariables false
namespace Go.Proofs.YtakdoijemopejaaGreat
open Go Go.RowKit
namespace Au
open Se (St At Reads Cell)
open Li (v8 v8_one Rd Blk Fr)
open Bv (n8 n16 n32 n64)
variable {w0 w : World} {X : List Nat} {L M : List At}
attribute [local irreducible] Calls
set_option maxRecDepth 100000 in
set_option maxHeartbeats 4000000 in
theorem rplain_st (hs : St w0 X L w) {bs : Bs} {A : Option Addr} {n c : Nat} (hn : n = bs.length) (hA : Reads L A (bs.map v8)) (hle : n ≤ 70368744177664) :
  Calls Tryz.prog 41 #[.slice A n c] w fun e w' => e = .returned (.bool (bs.all plainB)) ∧ St w0 X L w' := by
 have HN := Lib.hid hn
 have HA := Lib.hid hA
 obtain ⟨P, hP⟩ : ∃ P, P = bs.all plainB := ⟨_, rfl⟩
 have HP := Lib.hid hP
 rw [← hP]
 clear hn hA hP
 go_enter Tryz.func41, Tryz.ntmps41
 go_wp2_with fail
 go_loopg [3] n (fun gh s3 wr => ∃ i : Nat, gh = n - i ∧ i ≤ n ∧ s3 = .int .i64 i ∧ Hid ((bs.take i).all plainB = true) ∧ St w0 X L wr)
 case atStart => exact ⟨0, rfl, by omega, rfl, Lib.hid rfl, hs⟩
 case round =>
  clear hs
  rename World => w
  obtain ⟨i, rfl, hi, rfl, HT, hs⟩ := hrel
  by_cases hlt : i < n
  ·have hlt' : (i : Int) < (n : Int) := by omega
   have hx : i < bs.length := by have := HN.out; omega
   obtain ⟨ga, oa, rfl, hca⟩ := Rd_cell (HA.out w hs.hold) i (v8_at bs i hx)
   obtain ⟨x, hxe⟩ : ∃ x, x = bs.getD i 0#8 := ⟨_, rfl⟩
   rw [← hxe] at hca
   have ex : bs[i] = x := by rw [hxe]; simp [hx]
   obtain ⟨k, hk⟩ : ∃ k, k = x.toNat := ⟨_, rfl⟩
   have hnk : n8 x = (k : Int) := by rw [hk]; rfl
   rw [hnk] at hca
   have hpl : plainB x = (decide (32 ≤ k) && decide (k ≤ 126)) := by rw [hk]; rfl
   have HF : Hid (plainB x = false → P = false) := Lib.hid (fun h => by
    rw [HP.out, ← Bool.not_eq_true, List.all_eq_true]
    intro h2
    have := h2 bs[i] (List.getElem_mem hx)
    rw [ex, h] at this
    cases this)
   have HT2 : Hid (plainB x = true → (bs.take (i + 1)).all plainB = true) := Lib.hid (fun h => by rw [List.take_succ_eq_append_getElem hx, List.all_append, HT.out, ex]; simp [h])
   have HPL := Lib.hid hpl
   clear hx ex hxe hk hnk hpl
   by_cases h1 : k < 32
   ·have d1 : decide ((k : Int) < 32) = true := by simp; omega
    have HR := Lib.hid (HF.out (by rw [HPL.out]; simp; omega))
    clear h1
    go_wp2_with fail
    go_ret
    exact ⟨by rw [HR.out]; rfl, hs⟩
   ·have d1 : decide ((k : Int) < 32) = false := by simp; omega
    by_cases h2 : 126 < k
    ·have d2 : decide ((126 : Int) < (k : Int)) = true := by simp; omega
     have HR := Lib.hid (HF.out (by rw [HPL.out]; simp; omega))
     clear h1 h2
     go_wp2_with fail
     go_ret
     exact ⟨by rw [HR.out]; rfl, hs⟩
    ·have d2 : decide ((126 : Int) < (k : Int)) = false := by simp; omega
     have HT3 := Lib.hid (HT2.out (by rw [HPL.out]; simp; omega))
     clear h1 h2
     go_wp2_with fail
     go_roundg (n - (i + 1))
     case measure => omega
     case rel => exact ⟨i + 1, rfl, by omega, by go_num, HT3, hs⟩
  ·obtain rfl : i = n := by omega
   have HR : Hid (P = true) := Lib.hid (by have := HT.out; rwa [List.take_of_length_le (by rw [← HN.out]; exact Nat.le_refl _), ← HP.out] at this)
   go_wp2_with fail
   go_ret
   exact ⟨by rw [HR.out]; rfl, hs⟩
theorem b_at (x : BitVec 64) (i : Nat) : n8 ((x >>> i).setWidth 8) = ((x.toNat / 2 ^ i % 256 : Nat) : Int) := by
 unfold n8; rw [BitVec.toNat_setWidth, BitVec.toNat_ushiftRight, Nat.shiftRight_eq_div_pow]
theorem head_cells (k f : BitVec 8) (q : BitVec 16) (s : BitVec 32) : [Value.int .u8 (n8 k % 256), .int .u8 (n8 f % 256), .int .u8 ((n16 q).tmod 256 % 256), .int .u8 (IntKind.u16.wrap ((n16 q).tdiv 256) % 256), .int .u8 ((n32 s).tmod 256 % 256), .int .u8 ((n32 s).tdiv 256 % 256), .int .u8 ((n32 s).tdiv 65536 % 256), .int .u8 ((n32 s).tdiv 16777216 % 256)] = (headL ⟨k, f, q, s⟩).map v8 := by
 have hk := k.isLt
 have hf := f.isLt
 have hq := q.isLt
 have hs := s.isLt
 have e : (headL ⟨k, f, q, s⟩).map v8 = [Value.int .u8 (n8 ((k.setWidth 64 >>> 0).setWidth 8)), .int .u8 (n8 ((f.setWidth 64 >>> 0).setWidth 8)), .int .u8 (n8 ((q.setWidth 64 >>> 0).setWidth 8)), .int .u8 (n8 ((q.setWidth 64 >>> 8).setWidth 8)), .int .u8 (n8 ((s.setWidth 64 >>> 0).setWidth 8)), .int .u8 (n8 ((s.setWidth 64 >>> 8).setWidth 8)), .int .u8 (n8 ((s.setWidth 64 >>> 16).setWidth 8)), .int .u8 (n8 ((s.setWidth 64 >>> 24).setWidth 8))] := rfl
 rw [e]
 simp only [b_at, BitVec.toNat_setWidth]
 have ek : n8 k = (k.toNat : Int) := rfl
 have ef : n8 f = (f.toNat : Int) := rfl
 have eq : n16 q = (q.toNat : Int) := rfl
 have es : n32 s = (s.toNat : Int) := rfl
 rw [ek, ef, eq, es]
 generalize k.toNat = a at *
 generalize f.toNat = b at *
 generalize q.toNat = c at *
 generalize s.toNat = d at *
 have w1 : IntKind.u16.wrap ((c : Int).tdiv 256) = ((c / 256 : Nat) : Int) := by
  rw [Int.tdiv_eq_ediv_of_nonneg (by omega)]
  simp [IntKind.wrap, IntKind.bits, IntKind.signed]; omega
 rw [w1, Int.tmod_eq_emod_of_nonneg (by omega), Int.tmod_eq_emod_of_nonneg (by omega), Int.tdiv_eq_ediv_of_nonneg (by omega), Int.tdiv_eq_ediv_of_nonneg (by omega), Int.tdiv_eq_ediv_of_nonneg (by omega)]
 simp only [List.cons.injEq, Value.int.injEq, true_and, and_true]
 refine ⟨?_, ?_, ?_, ?_, ?_, ?_, ?_, ?_⟩ <;> omega
set_option maxRecDepth 100000 in
set_option maxHeartbeats 4000000 in
theorem rhead_st (hs : St w0 X L w) (h : Hd) : Calls Tryz.prog 30 #[.int .i64 (n8 h.k), .int .i64 (n8 h.f), .int .u16 (n16 h.q), .int .u32 (n32 h.s)] w fun e w' => ∃ r A c, e = .returned (.slice A 8 c) ∧ St w0 X (.own 1 r A 8 c ((headL h).map v8) :: L) w' := by
 obtain ⟨k, f, q, s⟩ := h
 go_enter Tryz.func30, Tryz.ntmps30
 go_wp2_with fail
 go_ret
 have e := head_cells k f q s
 have h2 := (hs.alloc ((headL ⟨k, f, q, s⟩).map v8) 5).blk_own 1 8 8 (by rw [List.length_map, headL_len]; exact Nat.le_refl _) (Nat.le_refl _) (by unfold maxLen; omega)
 rw [List.take_of_length_le (by rw [List.length_map, headL_len]; exact Nat.le_refl _)] at h2
 rw [← e] at h2 ⊢
 exact ⟨_, _, _, rfl, h2⟩
set_option maxRecDepth 100000 in
set_option maxHeartbeats 4000000 in
theorem rname_st (hs : St w0 X L w) (s : ByteArray) (h : s.size ≤ 240) : Calls Tryz.prog 27 #[.string s] w fun e w' => e = .returned (.bool (name (sB s))) ∧ St w0 X L w' := by
 obtain ⟨N, hN⟩ : ∃ N, N = name (sB s) := ⟨_, rfl⟩
 have HN : Hid (N = (decide (1 ≤ s.size) && decide (s.size ≤ 223) && (sB s).all plainB)) := Lib.hid (by rw [hN]; unfold name; rw [sB_len])
 have CP : Hid (∀ (A : Option Addr) (c : Nat) (w : World), St w0 X (.rd A ((sB s).map v8) :: L) w → Calls Tryz.prog 41 #[.slice A s.size c] w fun e w' => e = .returned (.bool ((sB s).all plainB)) ∧ St w0 X (.rd A ((sB s).map v8) :: L) w') := Lib.hid (fun A c w hs => rplain_st hs (by rw [sB_len]) (Reads.rd 0 rfl) (by omega))
 obtain ⟨P, hP⟩ : ∃ P, P = (sB s).all plainB := ⟨_, rfl⟩
 obtain ⟨m, hm⟩ : ∃ m, m = s.size := ⟨_, rfl⟩
 rw [← hP] at CP HN
 rw [← hm] at HN
 rw [← hN]
 have e1 : decide (1 ≤ (s.size : Int)) = decide (1 ≤ m) := by rw [hm]; simp; omega
 have e2 : decide ((s.size : Int) ≤ 223) = decide (m ≤ 223) := by rw [hm]; simp; omega
 clear hN hP hm
 by_cases h1 : 1 ≤ m
 ·rw [show decide (1 ≤ m) = true by simpa using h1] at e1
  by_cases h2 : m ≤ 223
  ·rw [show decide (m ≤ 223) = true by simpa using h2] at e2
   have HR : Hid (N = P) := Lib.hid (by rw [HN.out]; simp [h1, h2])
   clear HN h1 h2
   go_enter Tryz.func27, Tryz.ntmps27
   go_wp2_with (first | (with_reducible refine Se.isL (o := ⟨some 13, _, _, _, _, _⟩) ?_; refine Se.toL rfl (Se.cvt (o := ⟨some 13, _, _, _, _, _⟩) hs rfl rfl Tryz.underlying9 Tryz.underlying22 Tryz.underlying5 ?_); clear hs; rintro w A13 c13 hs) | (go_at_call 41; refine Calls.mono (CP.out _ _ _ hs) ?_; clear hs; rintro e w ⟨rfl, hs⟩))
   go_ret
   exact ⟨by rw [HR.out]; rfl, hs.drop⟩
  ·rw [show decide (m ≤ 223) = false by simpa using h2] at e2
   have HR : Hid (N = false) := Lib.hid (by rw [HN.out]; simp [h2])
   clear HN h1 h2
   go_enter Tryz.func27, Tryz.ntmps27
   go_wp2_with fail
   go_ret
   exact ⟨by rw [HR.out]; rfl, hs⟩
 ·rw [show decide (1 ≤ m) = false by simpa using h1] at e1
  have HR : Hid (N = false) := Lib.hid (by rw [HN.out]; simp [h1])
  clear HN h1
  go_enter Tryz.func27, Tryz.ntmps27
  go_wp2_with fail
  go_ret
  exact ⟨by rw [HR.out]; rfl, hs⟩
set_option maxRecDepth 100000 in
set_option maxHeartbeats 4000000 in
theorem rvalid_st (hs : St w0 X L w) (p : Pn) (A : Option Addr) (c : Nat) (h1 : p.hs.size ≤ 240) (h2 : p.sb.size ≤ 240) : Calls Tryz.prog 9 #[.agg (pcl p A c).toArray] w fun e w' => e = .returned (.bool (valid p.py)) ∧ St w0 X L w' := by
 obtain ⟨PL, hPL⟩ : ∃ PL, PL = pcl p A c := ⟨_, rfl⟩
 obtain ⟨m, hm⟩ : ∃ m, m = p.sec.length := ⟨_, rfl⟩
 have P0 := Lib.hid (show PL[0]? = some (.slice A m c) by rw [hPL, hm]; rfl)
 have P1 := Lib.hid (show PL[1]? = some (.string p.hs) by rw [hPL]; rfl)
 have P2 := Lib.hid (show PL[2]? = some (.string p.sb) by rw [hPL]; rfl)
 obtain ⟨V, hV⟩ : ∃ V, V = valid p.py := ⟨_, rfl⟩
 obtain ⟨n1, hn1⟩ : ∃ n1, n1 = name (sB p.hs) := ⟨_, rfl⟩
 obtain ⟨n2, hn2⟩ : ∃ n2, n2 = name (sB p.sb) := ⟨_, rfl⟩
 have HV : Hid (V = (n1 && n2 && decide (1 ≤ m) && decide (m ≤ 64))) := Lib.hid (by rw [hV, hn1, hn2, hm]; rfl)
 have C1 : Hid (∀ (L' : List At) (w : World), St w0 X L' w → Calls Tryz.prog 27 #[.string p.hs] w fun e w' => e = .returned (.bool n1) ∧ St w0 X L' w') := Lib.hid (fun L' w hs => by rw [hn1]; exact rname_st hs _ h1)
 have C2 : Hid (∀ (L' : List At) (w : World), St w0 X L' w → Calls Tryz.prog 27 #[.string p.sb] w fun e w' => e = .returned (.bool n2) ∧ St w0 X L' w') := Lib.hid (fun L' w hs => by rw [hn2]; exact rname_st hs _ h2)
 rw [← hPL, ← hV]
 clear hPL hm hV hn1 hn2 h1 h2
 by_cases k1 : 1 ≤ m
 ·have d1 : decide ((1 : Int) ≤ (m : Int)) = true := by simp; omega
  by_cases k2 : m ≤ 64
  ·have d2 : decide ((m : Int) ≤ 64) = true := by simp; omega
   cases n1 with
   | false =>
    have HR : Hid (V = false) := Lib.hid (by rw [HV.out]; rfl)
    clear HV k1 k2
    go_enter Tryz.func9, Tryz.ntmps9
    go_wp2_with (first | ((with_reducible refine Se.isL (o := ⟨some 4, _, _, _, _, _⟩) ?_); (refine Se.toL rfl (Se.ld (o := ⟨some 4, _, _, _, _, _⟩) hs rfl rfl (Cell.blk 0 rfl P0.out) (by kernel_rfl) ?_))) | ((with_reducible refine Se.isL (o := ⟨some 9, _, _, _, _, _⟩) ?_); (refine Se.toL rfl (Se.ld (o := ⟨some 9, _, _, _, _, _⟩) hs rfl rfl (Cell.blk 0 rfl P0.out) (by kernel_rfl) ?_))) | ((with_reducible refine Se.isL (o := ⟨some 15, _, _, _, _, _⟩) ?_); (refine Se.toL rfl (Se.ld (o := ⟨some 15, _, _, _, _, _⟩) hs rfl rfl (Cell.blk 0 rfl P1.out) (by kernel_rfl) ?_))) | ((first | with_reducible refine Se.ab hs ?_ | with_reducible refine Se.abc hs ?_); clear hs; (first | (generalize w.heap.size = gp; intro w hs))) | (go_at_call 27; refine Calls.mono (C1.out _ _ hs) ?_; clear hs; rintro e w ⟨rfl, hs⟩))
    go_ret
    exact ⟨by rw [HR.out]; rfl, hs.drop⟩
   | true =>
    have HR : Hid (V = n2) := Lib.hid (by rw [HV.out]; simp [k1, k2])
    clear HV k1 k2
    go_enter Tryz.func9, Tryz.ntmps9
    go_wp2_with (first | ((with_reducible refine Se.isL (o := ⟨some 4, _, _, _, _, _⟩) ?_); (refine Se.toL rfl (Se.ld (o := ⟨some 4, _, _, _, _, _⟩) hs rfl rfl (Cell.blk 0 rfl P0.out) (by kernel_rfl) ?_))) | ((with_reducible refine Se.isL (o := ⟨some 9, _, _, _, _, _⟩) ?_); (refine Se.toL rfl (Se.ld (o := ⟨some 9, _, _, _, _, _⟩) hs rfl rfl (Cell.blk 0 rfl P0.out) (by kernel_rfl) ?_))) | ((with_reducible refine Se.isL (o := ⟨some 15, _, _, _, _, _⟩) ?_); (refine Se.toL rfl (Se.ld (o := ⟨some 15, _, _, _, _, _⟩) hs rfl rfl (Cell.blk 0 rfl P1.out) (by kernel_rfl) ?_))) | ((with_reducible refine Se.isL (o := ⟨some 20, _, _, _, _, _⟩) ?_); (refine Se.toL rfl (Se.ld (o := ⟨some 20, _, _, _, _, _⟩) hs rfl rfl (Cell.blk 0 rfl P2.out) (by kernel_rfl) ?_))) | ((first | with_reducible refine Se.ab hs ?_ | with_reducible refine Se.abc hs ?_); clear hs; (first | (generalize w.heap.size = gp; intro w hs))) | (go_at_call 27; first | (refine Calls.mono (C1.out _ _ hs) ?_; clear hs; rintro e w ⟨rfl, hs⟩) | (refine Calls.mono (C2.out _ _ hs) ?_; clear hs; rintro e w ⟨rfl, hs⟩)))
    go_ret
    exact ⟨by rw [HR.out]; rfl, hs.drop⟩
  ·have d2 : decide ((m : Int) ≤ 64) = false := by simp; omega
   have HR : Hid (V = false) := Lib.hid (by rw [HV.out]; simp [k2])
   clear HV k1 k2
   go_enter Tryz.func9, Tryz.ntmps9
   go_wp2_with (first | ((with_reducible refine Se.isL (o := ⟨some 4, _, _, _, _, _⟩) ?_); (refine Se.toL rfl (Se.ld (o := ⟨some 4, _, _, _, _, _⟩) hs rfl rfl (Cell.blk 0 rfl P0.out) (by kernel_rfl) ?_))) | ((with_reducible refine Se.isL (o := ⟨some 9, _, _, _, _, _⟩) ?_); (refine Se.toL rfl (Se.ld (o := ⟨some 9, _, _, _, _, _⟩) hs rfl rfl (Cell.blk 0 rfl P0.out) (by kernel_rfl) ?_))) | ((first | with_reducible refine Se.ab hs ?_ | with_reducible refine Se.abc hs ?_); clear hs; (first | (generalize w.heap.size = gp; intro w hs))))
   go_ret
   exact ⟨by rw [HR.out]; rfl, hs.drop⟩
 ·have d1 : decide ((1 : Int) ≤ (m : Int)) = false := by simp; omega
  have HR : Hid (V = false) := Lib.hid (by rw [HV.out]; simp [k1])
  clear HV k1
  go_enter Tryz.func9, Tryz.ntmps9
  go_wp2_with (first | ((with_reducible refine Se.isL (o := ⟨some 4, _, _, _, _, _⟩) ?_); (refine Se.toL rfl (Se.ld (o := ⟨some 4, _, _, _, _, _⟩) hs rfl rfl (Cell.blk 0 rfl P0.out) (by kernel_rfl) ?_))) | ((first | with_reducible refine Se.ab hs ?_ | with_reducible refine Se.abc hs ?_); clear hs; (first | (generalize w.heap.size = gp; intro w hs))))
  go_ret
  exact ⟨by rw [HR.out]; rfl, hs.drop⟩
end Au
end Go.Proofs.YtakdoijemopejaaGreat

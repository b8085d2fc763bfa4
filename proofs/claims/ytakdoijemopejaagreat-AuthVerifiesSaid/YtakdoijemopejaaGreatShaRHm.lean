/- The walk of the reference's HMAC. -/
import Derived.Test.YtakdoijemopejaaGreatShaHm
set_option maxRecDepth 100000
set_option linter.unusedSimpArgs false
set_option linter.unusedVariables false
namespace Go.Proofs.YtakdoijemopejaaGreat
open Go Go.RowKit
open Se Li
namespace Sha
open Bv (n8 n16 n32 n64)
attribute [local irreducible] shaL
attribute [local go_sem ↓] Bv.xor_n8
attribute [local go_sem] Bv.of_n8
theorem take_snoc8 (p : List (BitVec 8)) (j : Nat) (h : j < p.length) : (p.take (j + 1)).map v8 = (p.take j).map v8 ++ [v8 (p.getD j 0)] := by
 rw [List.take_succ_eq_append_getElem h, List.map_append]; simp [h]
theorem pad_snoc (sk : List Value) (i : Nat) : sk ++ List.replicate (i + 1) (v8 0#8) = sk ++ List.replicate i (v8 0#8) ++ [v8 0#8] := by rw [List.replicate_succ', List.append_assoc]
set_option maxHeartbeats 4000000 in
theorem rhmac_st {w0 w : World} {X : List Nat} {L : List At} (hs : St w0 X L w) (key msg : List (BitVec 8)) (A B : Option Addr) (n m c d : Nat) (hn : n = key.length) (hm : m = msg.length) (hkl : key.length ≤ 549755813888) (hml : msg.length ≤ 274877906944) (hk : Reads L A (key.map v8)) (hg : Reads L B (msg.map v8)) :
  Calls Tryz.prog 39 #[.slice A n c, .slice B m d] w fun e w' => e = .returned (.agg ((hmacL key msg).map v8).toArray) ∧ St w0 X L w' := by
 have HN := Lib.hid hn
 have HM := Lib.hid hm
 have HKL := Lib.hid hkl
 have HML := Lib.hid hml
 obtain ⟨Z, hZ⟩ : ∃ Z, Z = List.replicate 32 (v8 0#8) := ⟨_, rfl⟩
 have lZ : Z.length = 32 := by rw [hZ]; simp
 have z25 := zero25
 rw [← hZ] at z25
 have LZ := Lib.hid lZ
 have Z25 := Lib.hid z25
 obtain ⟨pk, hpk⟩ : ∃ pk, pk = padK key := ⟨_, rfl⟩
 have lpk : pk.length = 64 := by rw [hpk]; exact padK_length key
 have LPK := Lib.hid lpk
 obtain ⟨sk, hsk⟩ : ∃ sk, sk = (keyL key).map v8 := ⟨_, rfl⟩
 obtain ⟨kl, hkl2⟩ : ∃ kl, kl = sk.length := ⟨_, rfl⟩
 have lsk : kl ≤ 64 := by rw [hkl2, hsk, List.length_map]; exact keyL_length key
 have e5 : sk ++ List.replicate (64 - kl) (v8 0#8) = pk.map v8 := by
  rw [hpk, hkl2, hsk]; unfold padK; simp
 obtain ⟨p1, hp1⟩ : ∃ p1, p1 = pk.map (· ^^^ 0x36#8) := ⟨_, rfl⟩
 obtain ⟨p2, hp2⟩ : ∃ p2, p2 = pk.map (· ^^^ 0x5c#8) := ⟨_, rfl⟩
 obtain ⟨M1, hM1⟩ : ∃ M1, M1 = p1 ++ msg := ⟨_, rfl⟩
 obtain ⟨R1, hR1⟩ : ∃ R1, R1 = (shaL M1).map v8 := ⟨_, rfl⟩
 obtain ⟨M2, hM2⟩ : ∃ M2, M2 = p2 ++ shaL M1 := ⟨_, rfl⟩
 obtain ⟨R2, hR2⟩ : ∃ R2, R2 = (shaL M2).map v8 := ⟨_, rfl⟩
 have hR : R2 = (hmacL key msg).map v8 := by rw [hR2, hM2, hM1, hp1, hp2, hpk]; rfl
 have l1 : M1.length = 64 + m := by rw [hM1, List.length_append, hp1, List.length_map, lpk, hm]
 have l2 : M2.length = 96 := by rw [hM2, List.length_append, hp2, List.length_map, lpk, shaL_length]
 have a1 : M1.map v8 = p1.map v8 ++ msg.map v8 := by rw [hM1, List.map_append]
 have a2 : M2.map v8 = p2.map v8 ++ R1 := by rw [hM2, List.map_append, hR1]
 have lR1 : R1.length = 32 := by rw [hR1, List.length_map, shaL_length]
 have lR2 : R2.length = 32 := by rw [hR2, List.length_map, shaL_length]
 have g1 : ∀ j, j < 64 → (p1.take (j + 1)).map v8 = (p1.take j).map v8 ++ [.int .u8 (n8 (pk.getD j 0 ^^^ 54#8))] := fun j hj => by
  rw [take_snoc8 p1 j (by rw [hp1, List.length_map, lpk]; exact hj), hp1]; simp [lpk, hj, v8]
 have g2 : ∀ j, j < 64 → (p2.take (j + 1)).map v8 = (p2.take j).map v8 ++ [.int .u8 (n8 (pk.getD j 0 ^^^ 92#8))] := fun j hj => by
  rw [take_snoc8 p2 j (by rw [hp2, List.length_map, lpk]; exact hj), hp2]; simp [lpk, hj, v8]
 have lp1 : p1.length = 64 := by rw [hp1, List.length_map, lpk]
 have lp2 : p2.length = 64 := by rw [hp2, List.length_map, lpk]
 rw [← hR]
 have HR1 := Lib.hid hR1
 have HR2 := Lib.hid hR2
 have HL1 := Lib.hid l1
 have HL2 := Lib.hid l2
 have HA1 := Lib.hid a1
 have HA2 := Lib.hid a2
 have LR1 := Lib.hid lR1
 have LR2 := Lib.hid lR2
 have OR1 := Lib.hid (show ∀ v ∈ R1, v.oneCell' = true by rw [hR1]; exact v8_one _)
 have OR2 := Lib.hid (show ∀ v ∈ R2, v.oneCell' = true by rw [hR2]; exact v8_one _)
 have G1 := Lib.hid g1
 have G2 := Lib.hid g2
 have LP1 := Lib.hid lp1
 have LP2 := Lib.hid lp2
 have E5 := Lib.hid e5
 have HSK := Lib.hid hsk
 have LSK := Lib.hid hkl2
 have OSK := Lib.hid (show ∀ v ∈ sk, v.oneCell' = true by rw [hsk]; exact v8_one _)
 have hlo := Nat.lt_or_ge 64 n
 clear hkl hml hZ lZ z25 hpk lpk hsk hkl2 e5 hp1 hp2 hM1 hM2 hR1 hR2 hR l1 l2 a1 a2 lR1 lR2 g1 g2 lp1 lp2
 replace hs := hs.nil_own 1 none
 have hk1 : n ≤ 549755813888 := by have := HKL.out; omega
 clear hn hm
 go_enter Tryz.func39, Tryz.ntmps39
 go_upto_if 15 with (first | ((with_reducible refine Se.isL (o := ⟨some 4, _, _, _, _, _⟩) ?_); (refine Se.toL rfl (Se.al (o := ⟨some 4, _, _, _, _, _⟩) hs rfl (Z25.out) ?_); clear hs; rintro w g4 - hs)) | ((with_reducible refine Se.isL (o := ⟨some 12, _, _, _, _, _⟩) ?_); (refine Se.toL rfl (Se.ap (o := ⟨some 12, _, _, _, _, _⟩) 1 hs rfl rfl rfl rfl ((hk.mono (by intro _ h; simp only [List.mem_cons, h, or_true]))) Tryz.underlying22 info5' rfl (by decide) ((v8_one _)) ((by rw [List.length_map, HN.out, Nat.mul_one])) ((by omega)) ((by omega)) ?_); clear hs; rintro w r1 A1 c1 hs; try simp only [List.cons_append, List.nil_append, List.set_cons_zero, List.set_cons_succ] at hs)))
 replace hs := hs.pull 1 rfl
 simp only [List.eraseIdx_cons_succ, List.eraseIdx_cons_zero, Nat.zero_add, List.nil_append] at hs
 go_cut [5] (fun s5 wx => ∃ (A : Option Addr) (c : Nat) (r : Option Nat), s5 = .slice A kl c ∧ St w0 X (.own 1 r A kl c sk :: .blk g4 34 Z :: L) wx)
 case first =>
  rcases hlo with hlo | hlo
  ·have hl2 : sk = (shaL key).map v8 := by rw [HSK.out]; unfold keyL; rw [if_pos (by have := HN.out; omega)]
   have h32 : sk.length = 32 := by rw [hl2, List.length_map, shaL_length]
   have H2 := Lib.hid hl2
   have H32 := Lib.hid h32
   have K32 := Lib.hid (show kl = 32 by rw [LSK.out, h32])
   have hli : (64 : Int) < (n : Int) := by omega
   clear hl2 h32 hlo
   go_wp2_with (first | ((with_reducible refine Se.isL (o := ⟨some 6, _, _, _, _, _⟩) ?_); (refine Se.toL rfl (Se.al (o := ⟨some 6, _, _, _, _, _⟩) hs rfl (Z25.out) ?_); clear hs; rintro w g6 - hs)) | ((with_reducible refine Se.isL (o := ⟨none, _, _, _, _, _⟩) ?_); (refine Se.toL rfl (Se.sow 0 hs rfl rfl rfl rfl (OSK.out) ((by rw [H32.out]; kernel_rfl)) ((by rw [H32.out, LZ.out])) ?_); clear hs; intro w hs; try simp only [List.cons_append, List.nil_append, List.set_cons_zero] at hs)) | (go_at_call 52; refine Calls.mono (rsha_st hs H2.out (hk.mono (by intro _ h; simp only [List.mem_cons, h, or_true])) HN.out HKL.out) ?_; clear hs; rintro e w ⟨rfl, hs⟩))
   replace hs := (((hs.pull 1 rfl).drop).blk_own 1 32 32 (by rw [H32.out]; omega) (Nat.le_refl _) (by unfold maxLen; omega))
   rw [List.take_of_length_le (by rw [H32.out]; omega)] at hs
   go_meet
   exact ⟨some ⟨g6, 0, none⟩, 32, some g6, by rw [K32.out], by rw [K32.out]; exact hs⟩
  ·have hl2 : sk = key.map v8 := by rw [HSK.out]; unfold keyL; rw [if_neg (by have := HN.out; omega)]
   have K32 := Lib.hid (show kl = n by rw [LSK.out, hl2, List.length_map, HN.out])
   have hli : (n : Int) ≤ 64 := by omega
   clear hlo
   go_wp2_with fail
   go_meet
   exact ⟨A1, c1, r1, by rw [K32.out], by rw [K32.out, hl2]; exact hs⟩
 case rest =>
  clear hs hlo
  rename World => w
  obtain ⟨A5, c5, r5, rfl, hs⟩ := hcut
  go_wp2_with fail
  go_loopg [5] (64 - kl) (fun gh s5 wr => ∃ (i : Nat) (A : Option Addr) (c : Nat) (r : Option Nat), gh = 64 - kl - i ∧ i ≤ 64 - kl ∧ s5 = .slice A (kl + i) c ∧ St w0 X (.own 1 r A (kl + i) c (sk ++ List.replicate i (v8 0#8)) :: .blk g4 34 Z :: L) wr)
  case atStart => exact ⟨0, A5, c5, r5, rfl, by omega, rfl, by simpa using hs⟩
  case round =>
   clear hs
   rename World => w
   obtain ⟨i, A5, c5, r5, rfl, hi, rfl, hs⟩ := hrel
   by_cases hlt : i < 64 - kl
   ·have hki : (kl : Int) + (i : Int) < 64 := by omega
    have hki2 : ((kl + i : Nat) : Int) < 64 := by omega
    have hb : kl + i ≤ 64 := by omega
    go_wp2_with (first | ((with_reducible refine Se.isL (o := ⟨some 24, _, _, _, _, _⟩) ?_); (refine Se.toL rfl (Se.ap (o := ⟨some 24, _, _, _, _, _⟩) 1 hs rfl rfl rfl rfl ((Reads.blk 0 rfl)) Tryz.underlying22 info5' rfl (by decide) ((Se.one1 rfl)) (rfl) ((by omega)) ((by omega)) ?_); clear hs; rintro w r6 A6 c6 hs; try simp only [List.cons_append, List.nil_append, List.set_cons_zero, List.set_cons_succ] at hs)) | ((first | with_reducible refine Se.ab hs ?_ | with_reducible refine Se.abc hs ?_); clear hs; (first | (generalize w.heap.size = b1; intro w hs))))
    go_roundg (64 - kl - (i + 1))
    case measure => omega
    case rel => exact ⟨i + 1, A6, c6, r6, rfl, by omega, by rw [Nat.add_assoc], by rw [pad_snoc]; exact hs.drop⟩
   ·have ei : i = 64 - kl := by omega
    have hk6 : kl + i = 64 := by omega
    rw [hk6] at hs
    rw [ei, E5.out] at hs
    have hki : ¬ ((kl : Int) + (i : Int) < 64) := by omega
    have hki2 : ¬ (((kl + i : Nat) : Int) < 64) := by omega
    obtain ⟨g5, off, rfl, rfl⟩ := hs.own_at 0 rfl (by omega)
    replace hs := (hs.nil_own 1 none).nil_own 1 none
    rw [hk6]
    clear ei hk6 hi hlt hki
    go_wp2_with fail
    go_loopg [7, 8, 9] 64 (fun gh s7 s8 s9 wr => ∃ (j : Nat) (A7 A8 : Option Addr) (c7 c8 : Nat) (r7 r8 : Option Nat), gh = 64 - j ∧ j ≤ 64 ∧ s7 = .slice A7 j c7 ∧ s8 = .slice A8 j c8 ∧ s9 = .int .i64 j ∧
     St w0 X (.own 1 r7 A7 j c7 ((p1.take j).map v8) :: .own 1 r8 A8 j c8 ((p2.take j).map v8) :: .own 1 (some g5) (some ⟨g5, off, none⟩) 64 c5 (pk.map v8) :: .blk g4 34 Z :: L) wr)
    case atStart => exact ⟨0, none, none, 0, 0, none, none, rfl, by omega, rfl, rfl, rfl, hs⟩
    case round =>
     clear hs
     rename World => w
     obtain ⟨j, A7, A8, c7, c8, r7, r8, rfl, hj, rfl, rfl, rfl, hs⟩ := hrel
     by_cases hlt : j < 64
     ·have hji : (j : Int) < 64 := by omega
      have hb : j + 1 ≤ 64 := by omega
      obtain ⟨y, hy⟩ : ∃ y, y = pk.getD j 0 := ⟨_, rfl⟩
      have hv : (pk.map v8)[j]? = some (.int .u8 (n8 y)) := by
       rw [hy]; simp [LPK.out, hlt, v8]
      have HV := Lib.hid hv
      have HY := Lib.hid hy
      clear hv hy
      go_wp2_with (first | ((with_reducible refine Se.isL (o := ⟨some 33, _, _, _, _, _⟩) ?_); (refine Se.toL rfl (Se.ld (o := ⟨some 33, _, _, _, _, _⟩) hs rfl rfl ((by first | exact (Reads.own 0 rfl).cell (j) HV.out | exact (Reads.blk 0 rfl).cell0 (j) HV.out | exact (Reads.rd 0 rfl).cell (j) HV.out | exact (Reads.own 1 rfl).cell (j) HV.out | exact (Reads.blk 1 rfl).cell0 (j) HV.out | exact (Reads.rd 1 rfl).cell (j) HV.out | exact (Reads.own 2 rfl).cell (j) HV.out | exact (Reads.blk 2 rfl).cell0 (j) HV.out | exact (Reads.rd 2 rfl).cell (j) HV.out | exact (Reads.own 3 rfl).cell (j) HV.out | exact (Reads.blk 3 rfl).cell0 (j) HV.out | exact (Reads.rd 3 rfl).cell (j) HV.out | exact (Reads.own 4 rfl).cell (j) HV.out | exact (Reads.blk 4 rfl).cell0 (j) HV.out | exact (Reads.rd 4 rfl).cell (j) HV.out | exact (Reads.own 5 rfl).cell (j) HV.out | exact (Reads.blk 5 rfl).cell0 (j) HV.out | exact (Reads.rd 5 rfl).cell (j) HV.out | exact (Reads.own 6 rfl).cell (j) HV.out | exact (Reads.blk 6 rfl).cell0 (j) HV.out | exact (Reads.rd 6 rfl).cell (j) HV.out | exact (Reads.own 7 rfl).cell (j) HV.out | exact (Reads.blk 7 rfl).cell0 (j) HV.out | exact (Reads.rd 7 rfl).cell (j) HV.out | exact (Reads.own 8 rfl).cell (j) HV.out | exact (Reads.blk 8 rfl).cell0 (j) HV.out | exact (Reads.rd 8 rfl).cell (j) HV.out)) (by kernel_rfl) ?_))) | ((with_reducible refine Se.isL (o := ⟨some 41, _, _, _, _, _⟩) ?_); (refine Se.toL rfl (Se.ld (o := ⟨some 41, _, _, _, _, _⟩) hs rfl rfl ((by first | exact (Reads.own 0 rfl).cell (j) HV.out | exact (Reads.blk 0 rfl).cell0 (j) HV.out | exact (Reads.rd 0 rfl).cell (j) HV.out | exact (Reads.own 1 rfl).cell (j) HV.out | exact (Reads.blk 1 rfl).cell0 (j) HV.out | exact (Reads.rd 1 rfl).cell (j) HV.out | exact (Reads.own 2 rfl).cell (j) HV.out | exact (Reads.blk 2 rfl).cell0 (j) HV.out | exact (Reads.rd 2 rfl).cell (j) HV.out | exact (Reads.own 3 rfl).cell (j) HV.out | exact (Reads.blk 3 rfl).cell0 (j) HV.out | exact (Reads.rd 3 rfl).cell (j) HV.out | exact (Reads.own 4 rfl).cell (j) HV.out | exact (Reads.blk 4 rfl).cell0 (j) HV.out | exact (Reads.rd 4 rfl).cell (j) HV.out | exact (Reads.own 5 rfl).cell (j) HV.out | exact (Reads.blk 5 rfl).cell0 (j) HV.out | exact (Reads.rd 5 rfl).cell (j) HV.out | exact (Reads.own 6 rfl).cell (j) HV.out | exact (Reads.blk 6 rfl).cell0 (j) HV.out | exact (Reads.rd 6 rfl).cell (j) HV.out | exact (Reads.own 7 rfl).cell (j) HV.out | exact (Reads.blk 7 rfl).cell0 (j) HV.out | exact (Reads.rd 7 rfl).cell (j) HV.out | exact (Reads.own 8 rfl).cell (j) HV.out | exact (Reads.blk 8 rfl).cell0 (j) HV.out | exact (Reads.rd 8 rfl).cell (j) HV.out)) (by kernel_rfl) ?_))) | ((with_reducible refine Se.isL (o := ⟨some 36, _, _, _, _, _⟩) ?_); (refine Se.toL rfl (Se.ap (o := ⟨some 36, _, _, _, _, _⟩) 1 hs rfl rfl rfl rfl ((Reads.blk 0 rfl)) Tryz.underlying22 info5' rfl (by decide) ((Se.one1 rfl)) (rfl) ((by omega)) ((by omega)) ?_); clear hs; rintro w r1 A1 c1 hs; try simp only [List.cons_append, List.nil_append, List.set_cons_zero, List.set_cons_succ] at hs)) | ((with_reducible refine Se.isL (o := ⟨some 44, _, _, _, _, _⟩) ?_); (refine Se.toL rfl (Se.ap (o := ⟨some 44, _, _, _, _, _⟩) 3 hs rfl rfl rfl rfl ((Reads.blk 0 rfl)) Tryz.underlying22 info5' rfl (by decide) ((Se.one1 rfl)) (rfl) ((by omega)) ((by omega)) ?_); clear hs; rintro w r2 A2 c2 hs; try simp only [List.cons_append, List.nil_append, List.set_cons_zero, List.set_cons_succ] at hs)) | ((first | with_reducible refine Se.ab hs ?_ | with_reducible refine Se.abc hs ?_); clear hs; (first | (generalize w.heap.size = b1; intro w hs))))
      go_roundg (64 - (j + 1))
      case measure => omega
      case rel =>
       refine ⟨j + 1, A1, A2, c1, c2, r1, r2, rfl, by omega, rfl, rfl, by go_num, ?_⟩
       rw [G1.out j hlt, G2.out j hlt, ← HY.out]
       exact hs.drop.drop
     ·have ej : j = 64 := by omega
      subst ej
      rw [List.take_of_length_le (by rw [LP1.out]; exact Nat.le_refl _), List.take_of_length_le (by rw [LP2.out]; exact Nat.le_refl _)] at hs
      go_wp2_with (first | ((with_reducible refine Se.isL (o := ⟨some 47, _, _, _, _, _⟩) ?_); (refine Se.toL rfl (Se.ap (o := ⟨some 47, _, _, _, _, _⟩) 0 hs rfl rfl rfl rfl ((hg.mono (by intro _ h; simp only [List.mem_cons, h, or_true]))) Tryz.underlying22 info5' rfl (by decide) ((v8_one _)) ((by rw [List.length_map, HM.out, Nat.mul_one])) ((by have := HML.out; have := HM.out; omega)) ((by have := HML.out; have := HM.out; omega)) ?_); clear hs; rintro w r1 A1 c1 hs; try simp only [List.cons_append, List.nil_append, List.set_cons_zero] at hs)) | (go_at_call 52; fail))
      refine Calls.mono (rsha_st hs HR1.out (by show Reads _ _ (M1.map v8); rw [HA1.out]; exact Reads.own 0 rfl) HL1.out.symm (by have := HL1.out; have := HML.out; have := HM.out; omega)) ?_
      clear hs; rintro e w ⟨rfl, hs⟩
      go_wp2_with (first | ((with_reducible refine Se.isL (o := ⟨some 10, _, _, _, _, _⟩) ?_); (refine Se.toL rfl (Se.al (o := ⟨some 10, _, _, _, _, _⟩) hs rfl (Z25.out) ?_); clear hs; rintro w g8 - hs)) | ((with_reducible refine Se.isL (o := ⟨none, _, _, _, _, _⟩) ?_); (refine Se.toL rfl (Se.sow 0 hs rfl rfl rfl rfl (OR1.out) ((by rw [LR1.out]; kernel_rfl)) ((by rw [LR1.out, LZ.out])) ?_); clear hs; intro w hs; try simp only [List.cons_append, List.nil_append, List.set_cons_zero] at hs)) | ((with_reducible refine Se.isL (o := ⟨some 51, _, _, _, _, _⟩) ?_); (refine Se.toL rfl (Se.ap (o := ⟨some 51, _, _, _, _, _⟩) 2 hs rfl rfl rfl rfl ((Reads.blk 0 rfl)) Tryz.underlying22 info5' rfl (by decide) (OR1.out) ((by rw [LR1.out])) ((by omega)) ((by omega)) ?_); clear hs; rintro w r2 A2 c2 hs; try simp only [List.cons_append, List.nil_append, List.set_cons_zero, List.set_cons_succ] at hs)) | (go_at_call 52; fail))
      refine Calls.mono (rsha_st hs HR2.out (by show Reads _ _ (M2.map v8); rw [HA2.out]; exact Reads.own 2 rfl) HL2.out.symm (by rw [HL2.out]; omega)) ?_
      clear hs; rintro e w ⟨rfl, hs⟩
      go_wp2_with (first | ((with_reducible refine Se.isL (o := ⟨none, _, _, _, _, _⟩) ?_); (first | (refine Se.toL rfl (Se.sow 0 hs rfl rfl rfl rfl (OR2.out) ((by rw [LR2.out]; kernel_rfl)) ((by rw [LR2.out, LZ.out])) ?_); clear hs; intro w hs; try simp only [List.cons_append, List.nil_append, List.set_cons_zero] at hs) | (refine Se.toL rfl (Se.sow 1 hs rfl rfl rfl rfl (OR2.out) ((by rw [LR2.out]; kernel_rfl)) ((by rw [LR2.out, LZ.out])) ?_); clear hs; intro w hs; try simp only [List.cons_append, List.nil_append, List.set_cons_zero, List.set_cons_succ] at hs) | (refine Se.toL rfl (Se.sow 2 hs rfl rfl rfl rfl (OR2.out) ((by rw [LR2.out]; kernel_rfl)) ((by rw [LR2.out, LZ.out])) ?_); clear hs; intro w hs; try simp only [List.cons_append, List.nil_append, List.set_cons_zero, List.set_cons_succ] at hs) | (refine Se.toL rfl (Se.sow 3 hs rfl rfl rfl rfl (OR2.out) ((by rw [LR2.out]; kernel_rfl)) ((by rw [LR2.out, LZ.out])) ?_); clear hs; intro w hs; try simp only [List.cons_append, List.nil_append, List.set_cons_zero, List.set_cons_succ] at hs) | (refine Se.toL rfl (Se.sow 4 hs rfl rfl rfl rfl (OR2.out) ((by rw [LR2.out]; kernel_rfl)) ((by rw [LR2.out, LZ.out])) ?_); clear hs; intro w hs; try simp only [List.cons_append, List.nil_append, List.set_cons_zero, List.set_cons_succ] at hs) | (refine Se.toL rfl (Se.sow 5 hs rfl rfl rfl rfl (OR2.out) ((by rw [LR2.out]; kernel_rfl)) ((by rw [LR2.out, LZ.out])) ?_); clear hs; intro w hs; try simp only [List.cons_append, List.nil_append, List.set_cons_zero, List.set_cons_succ] at hs) | (refine Se.toL rfl (Se.sow 6 hs rfl rfl rfl rfl (OR2.out) ((by rw [LR2.out]; kernel_rfl)) ((by rw [LR2.out, LZ.out])) ?_); clear hs; intro w hs; try simp only [List.cons_append, List.nil_append, List.set_cons_zero, List.set_cons_succ] at hs) | (refine Se.toL rfl (Se.sow 7 hs rfl rfl rfl rfl (OR2.out) ((by rw [LR2.out]; kernel_rfl)) ((by rw [LR2.out, LZ.out])) ?_); clear hs; intro w hs; try simp only [List.cons_append, List.nil_append, List.set_cons_zero, List.set_cons_succ] at hs) | (refine Se.toL rfl (Se.sow 8 hs rfl rfl rfl rfl (OR2.out) ((by rw [LR2.out]; kernel_rfl)) ((by rw [LR2.out, LZ.out])) ?_); clear hs; intro w hs; try simp only [List.cons_append, List.nil_append, List.set_cons_zero, List.set_cons_succ] at hs))))
      refine Li.bodyPost_blk (by rfl) (by rfl) (hs.hold (.blk g4 34 R2) (by simp)) Tryz.underlying34 rfl (by rw [LR2.out]; kernel_rfl) rfl ⟨rfl, ?_⟩
      exact hs.drop.drop.drop.drop.drop
end Sha
end Go.Proofs.YtakdoijemopejaaGreat


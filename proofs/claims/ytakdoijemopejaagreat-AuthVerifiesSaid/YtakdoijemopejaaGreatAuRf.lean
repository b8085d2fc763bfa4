/- Layer 38: the reference's readers of a message's bytes. No condition but Go's own limits. -/
import Derived.Test.YtakdoijemopejaaGreatAuR3
import Derived.Test.YtakdoijemopejaaGreatAuSp
import Derived.Laws.BytesArg
import Derived.Laws.Strings
import Derived.Test.YtakdoijemopejaaGreatAuAct
import Derived.SizedLaws
set_option linter.unusedSimpArgs false
set_option linter.unusedVariables false
namespace Go.Proofs.YtakdoijemopejaaGreat
open Go Go.RowKit
namespace Au
open Se (St At Reads Cell)
open Li (v8 v8_one Rd Blk Fr)
open Bv (n8 n16 n32 n64)
variable {w0 w : World} {X : List Nat} {L M : List At}
attribute [local irreducible] Calls
theorem get4 (b : Bs) (h : 8 ≤ b.length) : n32 ((getL ((b.drop 4).take 4)).setWidth 32) = (b.getD 4 0#8).toNat + 256 * (b.getD 5 0#8).toNat + 65536 * (b.getD 6 0#8).toNat + 16777216 * (b.getD 7 0#8).toNat := by
 obtain ⟨l, hl⟩ : ∃ l, l = (b.drop 4).take 4 := ⟨_, rfl⟩
 have h4 : l.length = 4 := by rw [hl]; simp; omega
 have hg : ∀ i, i < 4 → l.getD i 0#8 = b.getD (4 + i) 0#8 := by
  intro i hi
  rw [hl, List.getD_eq_getElem?_getD, List.getD_eq_getElem?_getD, List.getElem?_take_of_lt hi, List.getElem?_drop]
 rw [← hl]
 unfold n32 getL
 rw [h4, BitVec.toNat_setWidth, getN_succ _ _ (by omega), getN_succ _ _ (by omega), getN_succ _ _ (by omega), getN_succ _ _ (by omega), hg 3 (by omega), hg 2 (by omega), hg 1 (by omega), hg 0 (by omega)]
 have e0 : (getN l 0).toNat = 0 := rfl
 have h0 := (b.getD 4 0#8).isLt
 have h1 := (b.getD 5 0#8).isLt
 have h2 := (b.getD 6 0#8).isLt
 have h3 := (b.getD 7 0#8).isLt
 rw [e0]
 simp only [Nat.reduceAdd, Nat.reduceMul, Nat.reducePow]
 omega
set_option maxRecDepth 100000 in
set_option maxHeartbeats 4000000 in
theorem rword_st (hs : St w0 X L w) {b : Bs} {A : Option Addr} {n c : Nat} (hn : n = b.length) (hA : Reads L A (b.map v8)) (h8 : 8 ≤ n) :
  Calls Tryz.prog 32 #[.slice A n c] w fun e w' => e = .returned (.int .u32 (n32 (hdOf b).s)) ∧ St w0 X L w' := by
 obtain ⟨g, o, rfl⟩ : ∃ g o, A = some ⟨g, o, none⟩ := by
  obtain ⟨g, o, h, _⟩ := Rd_cell (hA w hs.hold) 0 (v8_at b 0 (by omega))
  exact ⟨g, o, h⟩
 obtain ⟨R, hR⟩ : ∃ R, R = n32 (hdOf b).s := ⟨_, rfl⟩
 have HC := Lib.hid (show ∀ i, i < 8 → Cell L g (o + i) (.int .u8 (n8 (b.getD i 0#8))) from fun i hi => hA.cell i (v8_at b i (by omega)))
 obtain ⟨x4, h4⟩ : ∃ x, x = b.getD 4 0#8 := ⟨_, rfl⟩
 obtain ⟨x5, h5⟩ : ∃ x, x = b.getD 5 0#8 := ⟨_, rfl⟩
 obtain ⟨x6, h6⟩ : ∃ x, x = b.getD 6 0#8 := ⟨_, rfl⟩
 obtain ⟨x7, h7⟩ : ∃ x, x = b.getD 7 0#8 := ⟨_, rfl⟩
 have C4 := Lib.hid (show Cell L g (o + 4) (.int .u8 (n8 x4)) by rw [h4]; exact HC.out 4 (by omega))
 have C5 := Lib.hid (show Cell L g (o + 5) (.int .u8 (n8 x5)) by rw [h5]; exact HC.out 5 (by omega))
 have C6 := Lib.hid (show Cell L g (o + 6) (.int .u8 (n8 x6)) by rw [h6]; exact HC.out 6 (by omega))
 have C7 := Lib.hid (show Cell L g (o + 7) (.int .u8 (n8 x7)) by rw [h7]; exact HC.out 7 (by omega))
 have HR := Lib.hid (show R = (x4.toNat : Int) + 256 * x5.toNat + 65536 * x6.toNat + 16777216 * x7.toNat by rw [hR, h4, h5, h6, h7, ← get4 b (by omega)]; rfl)
 rw [← hR]
 clear HC hR h4 h5 h6 h7 hn hA
 have i4 : (4 : Int) < (n : Int) := by omega
 have i5 : (5 : Int) < (n : Int) := by omega
 have i6 : (6 : Int) < (n : Int) := by omega
 have i7 : (7 : Int) < (n : Int) := by omega
 go_enter Tryz.func32, Tryz.ntmps32
 go_upto_region 1 with (fail)
 refine Ch.region' 23 (fun wx => wx.cell? ⟨g, o + 4, none⟩ = some (.int .u8 (n8 x4)) ∧ wx.cell? ⟨g, o + 5, none⟩ = some (.int .u8 (n8 x5)) ∧ wx.cell? ⟨g, o + 6, none⟩ = some (.int .u8 (n8 x6)) ∧ wx.cell? ⟨g, o + 7, none⟩ = some (.int .u8 (n8 x7))) (fun  | _ => false) (by kernel_rfl) (by decide +kernel) (⟨C4.out _ hs.drew.hold, C5.out _ hs.drew.hold, C6.out _ hs.drew.hold, C7.out _ hs.drew.hold⟩) ?_
 replace hs := hs.drew
 generalize w.drew = w at hs ⊢
 change Ch.CW _ _ _ _ _ [0, 1, 2, 3, 4, 5, 6, 7, 8, 9, 10, 11, 12, 13, 14, 15, 16, 17, 18, 19, 20, 21, 22] _ _
 iterate 23 ((first | (refine Ch.pure (v := ?_) (by rfl) (by rfl) (by rfl) (fun wx hS => ?_) ?_; rotate_left; (focus (go_simp; (first | done | with_reducible rfl)))) | refine Ch.pure (v := _) (by rfl) (by rfl) (by rfl) (fun wx hS => Se.xl rfl rfl hS.1 (by decide +kernel)) ?_ | refine Ch.pure (v := _) (by rfl) (by rfl) (by rfl) (fun wx hS => Se.xl rfl rfl hS.2.1 (by decide +kernel)) ?_ | refine Ch.pure (v := _) (by rfl) (by rfl) (by rfl) (fun wx hS => Se.xl rfl rfl hS.2.2.1 (by decide +kernel)) ?_ | refine Ch.pure (v := _) (by rfl) (by rfl) (by rfl) (fun wx hS => Se.xl rfl rfl hS.2.2.2 (by decide +kernel)) ?_); (try simp only [Act.put, List.setIfInBounds_toArray, List.set_cons_zero, List.set_cons_succ]))
 refine Ch.done ?_
 try simp only [List.drop_succ_cons, List.drop_zero]
 go_wp2_with fail
 go_ret
 refine ⟨?_, hs⟩
 rw [HR.out]
 have h0 := x4.isLt
 have h1 := x5.isLt
 have h2 := x6.isLt
 have h3 := x7.isLt
 refine congrArg (fun z => Ending.returned (.int .u32 z)) ?_
 simp [IntKind.wrap, IntKind.bits, IntKind.signed, n8]
 omega
/-- A row that is filled. -/
def pf (P : Bs) (i : Nat) : List Value := (P.take i).map v8 ++ List.replicate (32 - i) (v8 0#8)
theorem pf_set {P : Bs} (h : P.length = 32) {i : Nat} (hi : i < 32) : (pf P i).set i (.int .u8 (n8 (P.getD i 0#8))) = pf P (i + 1) := by
 unfold pf
 rw [List.set_append_right _ _ (by simp; omega), List.length_map, List.length_take, Nat.min_eq_left (by omega), Nat.sub_self, show 32 - i = (32 - (i + 1)) + 1 by omega, List.replicate_succ, List.set_cons_zero, List.take_succ_eq_append_getElem (by omega), List.map_append, List.append_assoc]
 congr 1
 simp [show i < P.length by omega, v8]
theorem pf_len {P : Bs} (h : P.length = 32) {i : Nat} (hi : i ≤ 32) : (pf P i).length = 32 := by unfold pf; simp; omega
set_option maxRecDepth 100000 in
set_option maxHeartbeats 4000000 in
theorem rpart_st (hs : St w0 X L w) {b : Bs} {A : Option Addr} {n c k : Nat} (hn : n = b.length) (hA : Reads L A (b.map v8)) (hk : k + 32 ≤ n) (hle : n ≤ 1000) :
  Calls Tryz.prog 33 #[.slice A n c, .int .i64 (k : Int)] w fun e w' => e = .returned (.agg (((b.drop k).take 32).map v8).toArray) ∧ St w0 X L w' := by
 obtain ⟨g, o, rfl⟩ : ∃ g o, A = some ⟨g, o, none⟩ := by
  obtain ⟨g, o, h, _⟩ := Rd_cell (hA w hs.hold) 0 (v8_at b 0 (by omega))
  exact ⟨g, o, h⟩
 obtain ⟨P, hP⟩ : ∃ P, P = (b.drop k).take 32 := ⟨_, rfl⟩
 have PL := Lib.hid (show P.length = 32 by rw [hP]; simp; omega)
 have HC := Lib.hid (show ∀ i, i < 32 → Cell L g (o + (k + i)) (.int .u8 (n8 (P.getD i 0#8))) from fun i hi => by
  have e : P.getD i 0#8 = b.getD (k + i) 0#8 := by rw [hP, List.getD_eq_getElem?_getD, List.getD_eq_getElem?_getD, List.getElem?_take_of_lt hi, List.getElem?_drop]
  rw [e]
  exact hA.cell (k + i) (v8_at b (k + i) (by omega)))
 obtain ⟨Z, hZ⟩ : ∃ Z, Z = z32.map v8 := ⟨_, rfl⟩
 have aJ := Lib.hid a32J
 have ZL := Lib.hid (show Z.length = 32 by rw [hZ]; rfl)
 have Z0 := Lib.hid (show Z = pf P 0 by rw [hZ]; rfl)
 rw [← hZ] at aJ
 obtain ⟨R, hR⟩ : ∃ R, R = P.map v8 := ⟨_, rfl⟩
 have RL := Lib.hid (show R.length = 32 by rw [hR, List.length_map, PL.out])
 have RO := Lib.hid (show ∀ v ∈ R, v.oneCell' = true by rw [hR]; exact v8_one _)
 have PE := Lib.hid (show pf P 32 = R by rw [hR]; unfold pf; rw [List.take_of_length_le (by rw [PL.out]; exact Nat.le_refl _)]; simp)
 rw [← hP, ← hR]
 clear hP hZ hA hn hR
 go_enter Tryz.func33, Tryz.ntmps33
 go_wp2_with (first | ((with_reducible refine Se.isL (o := ⟨some 4, _, _, _, _, _⟩) ?_); (refine Se.toL rfl (Se.al (o := ⟨some 4, _, _, _, _, _⟩) hs rfl (aJ.out) ?_); clear hs; rintro w g4 - hs)) | ((with_reducible refine Se.isL (o := ⟨some 5, _, _, _, _, _⟩) ?_); (refine Se.toL rfl (Se.al (o := ⟨some 5, _, _, _, _, _⟩) hs rfl (aJ.out) ?_); clear hs; rintro w g5 - hs)))
 go_loopg [6] 32 (fun gh s6 wr => ∃ i : Nat, gh = 32 - i ∧ i ≤ 32 ∧ s6 = .int .i64 i ∧ St w0 X (.blk g5 34 (pf P i) :: .blk g4 34 Z :: L) wr)
 case atStart => exact ⟨0, rfl, by omega, rfl, by rw [← Z0.out]; exact hs⟩
 case round =>
  clear hs
  rename World => w
  obtain ⟨i, rfl, hi, rfl, hs⟩ := hrel
  by_cases hlt : i < 32
  ·have hlt' : (i : Int) < 32 := by omega
   have hc : Hid (∀ a b : At, Cell (a :: b :: L) g (o + (k + i)) (.int .u8 (n8 (P.getD i 0#8)))) := Lib.hid (fun a b w hw => HC.out i hlt w (fun q hq => hw q (List.mem_cons_of_mem _ (List.mem_cons_of_mem _ hq))))
   have hkn : (k : Int) + (i : Int) < (n : Int) := by omega
   have hkn2 : ((k + i : Nat) : Int) < (n : Int) := by omega
   have PS := Lib.hid (pf_set PL.out hlt)
   have PN := Lib.hid (pf_len PL.out hi)
   go_wp2_with (first | ((with_reducible refine Se.isL (o := ⟨some 17, _, _, _, _, _⟩) ?_); (refine Se.toL rfl (Se.ld (o := ⟨some 17, _, _, _, _, _⟩) hs rfl rfl ((hc.out _ _)) (by kernel_rfl) ?_))) | ((with_reducible refine Se.isL (o := ⟨none, _, _, _, _, _⟩) ?_); ((first | refine Se.toL rfl (Se.soq 0 (v := .int _ _) hs rfl rfl rfl rfl rfl (by kernel_rfl) ((by rw [PN.out]; omega)) (PS.out) ?_) | refine Se.toL rfl (Se.soq 0 (v := .bool _) hs rfl rfl rfl rfl rfl (by kernel_rfl) ((by rw [PN.out]; omega)) (PS.out) ?_) | refine Se.toL rfl (Se.soq 0 (v := .slice _ _ _) hs rfl rfl rfl rfl rfl (by kernel_rfl) ((by rw [PN.out]; omega)) (PS.out) ?_) | refine Se.toL rfl (Se.soq 0 (v := .pointer _) hs rfl rfl rfl rfl rfl (by kernel_rfl) ((by rw [PN.out]; omega)) (PS.out) ?_) | refine Se.toL rfl (Se.soq 0 (v := .string _) hs rfl rfl rfl rfl rfl (by kernel_rfl) ((by rw [PN.out]; omega)) (PS.out) ?_) | refine Se.toL rfl (Se.soq 0 (v := .map _) hs rfl rfl rfl rfl rfl (by kernel_rfl) ((by rw [PN.out]; omega)) (PS.out) ?_) | refine Se.toL rfl (Se.soq 0 (v := .func _ _ _) hs rfl rfl rfl rfl rfl (by kernel_rfl) ((by rw [PN.out]; omega)) (PS.out) ?_) | refine Se.toL rfl (Se.soq 0 (v := .nilFunc) hs rfl rfl rfl rfl rfl (by kernel_rfl) ((by rw [PN.out]; omega)) (PS.out) ?_)); clear hs; intro w hs; try simp only [List.cons_append, List.nil_append, List.set_cons_zero] at hs)))
   go_roundg (32 - (i + 1))
   case measure => omega
   case rel => exact ⟨i + 1, rfl, by omega, by go_num, hs⟩
  ·obtain rfl : i = 32 := by omega
   rw [PE.out] at hs
   clear PE HC
   go_wp2_with (first | ((with_reducible refine Se.isL (o := ⟨some 19, _, _, _, _, _⟩) ?_); (refine Se.toL rfl (Se.ldw (o := ⟨some 19, _, _, _, _, _⟩) hs rfl rfl ((Reads.blk 0 rfl)) ((by rw [RL.out]; kernel_rfl)) (by kernel_rfl) ?_))) | ((with_reducible refine Se.isL (o := ⟨none, _, _, _, _, _⟩) ?_); (refine Se.toL rfl (Se.sow 1 hs rfl rfl rfl rfl (RO.out) ((by rw [RL.out]; kernel_rfl)) ((by rw [RL.out, ZL.out])) ?_); clear hs; intro w hs; try simp only [List.cons_append, List.nil_append, List.set_cons_zero, List.set_cons_succ] at hs)))
   refine Li.bodyPost_blk (by rfl) (by rfl) (hs.hold (.blk g4 34 R) (by simp)) Tryz.underlying34 rfl (by rw [RL.out]; kernel_rfl) rfl ⟨rfl, ?_⟩
   exact hs.drop.drop
set_option maxRecDepth 100000 in
set_option maxHeartbeats 4000000 in
theorem rzeros_st (hs : St w0 X L w) {bs : Bs} {A : Option Addr} {n c : Nat} (hn : n = bs.length) (hA : Reads L A (bs.map v8)) (hle : n ≤ 70368744177664) :
  Calls Tryz.prog 45 #[.slice A n c] w fun e w' => e = .returned (.bool (bs.all (· == 0#8))) ∧ St w0 X L w' := by
 have HN := Lib.hid hn
 have HA := Lib.hid hA
 obtain ⟨P, hP⟩ : ∃ P, P = bs.all (· == 0#8) := ⟨_, rfl⟩
 have HP := Lib.hid hP
 rw [← hP]
 clear hn hA hP
 go_enter Tryz.func45, Tryz.ntmps45
 go_wp2_with fail
 go_loopg [3] n (fun gh s3 wr => ∃ i : Nat, gh = n - i ∧ i ≤ n ∧ s3 = .int .i64 i ∧ Hid ((bs.take i).all (· == 0#8) = true) ∧ St w0 X L wr)
 case atStart => exact ⟨0, rfl, by omega, rfl, Lib.hid rfl, hs⟩
 case round =>
  clear hs
  rename World => w
  obtain ⟨i, rfl, hi, rfl, HT, hs⟩ := hrel
  by_cases hlt : i < n
  ·have hlt' : (i : Int) < (n : Int) := by omega
   have hx : i < bs.length := by have := HN.out; omega
   obtain ⟨ga, oa, rfl, hca⟩ := Rd_cell (HA.out w hs.hold) i (v8_at bs i hx)
   obtain ⟨x, hxe⟩ : ∃ x, x = bs.getD i 0#8 := ⟨_, rfl⟩
   rw [← hxe] at hca
   have ex : bs[i] = x := by rw [hxe]; simp [hx]
   have HF : Hid (x ≠ 0#8 → P = false) := Lib.hid (fun h => by
    rw [HP.out, ← Bool.not_eq_true, List.all_eq_true]
    intro h2
    have := h2 bs[i] (List.getElem_mem hx)
    rw [ex] at this
    exact h (by simpa using this))
   have HT2 : Hid (x = 0#8 → (bs.take (i + 1)).all (· == 0#8) = true) := Lib.hid (fun h => by rw [List.take_succ_eq_append_getElem hx, List.all_append, HT.out, ex]; simp [h])
   clear hx ex hxe
   by_cases h1 : x = 0#8
   ·have d1 : (n8 x != 0) = false := by rw [h1]; rfl
    have HT3 := Lib.hid (HT2.out h1)
    clear h1
    go_wp2_with fail
    go_roundg (n - (i + 1))
    case measure => omega
    case rel => exact ⟨i + 1, rfl, by omega, by go_num, HT3, hs⟩
   ·have d1 : (n8 x != 0) = true := by
     simp only [bne_iff_ne, ne_eq]
     intro h
     apply h1
     apply BitVec.eq_of_toNat_eq
     have : (x.toNat : Int) = 0 := h
     simp; omega
    have HR := Lib.hid (HF.out h1)
    clear h1
    go_wp2_with fail
    go_ret
    exact ⟨by rw [HR.out]; rfl, hs⟩
  ·obtain rfl : i = n := by omega
   have HR : Hid (P = true) := Lib.hid (by have := HT.out; rwa [List.take_of_length_le (by rw [← HN.out]; exact Nat.le_refl _), ← HP.out] at this)
   go_wp2_with fail
   go_ret
   exact ⟨by rw [HR.out]; rfl, hs⟩
end Au
end Go.Proofs.YtakdoijemopejaaGreat
/- Layer 38: the reference's check of a message. No condition but Go's own limits. -/
namespace Go.Proofs.YtakdoijemopejaaGreat
open Go Go.RowKit
namespace Au
open Se (St At Reads Cell)
open Li (v8 v8_one Rd Blk Fr)
open Bv (n8 n16 n32 n64)
variable {w0 w : World} {X : List Nat} {L M : List At}
attribute [local irreducible] Calls
theorem getL1 (l : Bs) (h : l.length = 1) : (getL l).setWidth 8 = l.getD 0 0#8 := by
 unfold getL
 rw [h]
 apply BitVec.eq_of_toNat_eq
 rw [BitVec.toNat_setWidth, getN_succ _ _ (by omega)]
 have e0 : (getN l 0).toNat = 0 := rfl
 have h0 := (l.getD 0 0#8).isLt
 rw [e0]
 simp only [Nat.reduceMul, Nat.reducePow]
 omega
theorem hd_k (b : Bs) (h : 8 ≤ b.length) : (hdOf b).k = b.getD 0 0#8 := by
 unfold hdOf
 show (getL (b.take 1)).setWidth 8 = _
 rw [getL1 _ (by simp; omega), List.getD_eq_getElem?_getD, List.getD_eq_getElem?_getD, List.getElem?_take_of_lt (by omega)]
theorem hd_f (b : Bs) (h : 8 ≤ b.length) : (hdOf b).f = b.getD 1 0#8 := by
 unfold hdOf
 show (getL ((b.drop 1).take 1)).setWidth 8 = _
 rw [getL1 _ (by simp; omega), List.getD_eq_getElem?_getD, List.getD_eq_getElem?_getD, List.getElem?_take_of_lt (by omega), List.getElem?_drop]
theorem all_z {l : Bs} (h : l.length = 32) : l.all (· == 0#8) = decide (l = z32) := by
 rw [Bool.eq_iff_iff]
 simp only [List.all_eq_true, beq_iff_eq, decide_eq_true_eq]
 constructor
 ·intro hz
  exact List.eq_replicate_iff.2 ⟨h, hz⟩
 ·intro hz x hx
  exact (List.eq_replicate_iff.1 hz).2 x hx
set_option maxRecDepth 100000 in
set_option maxHeartbeats 4000000 in
theorem rcheck_st (hs : St w0 X L w) {b : Bs} {A : Option Addr} {n c sz np : Nat} (kind : BitVec 8) (hn : n = b.length) (hA : Reads L A (b.map v8)) (hc : kind ≠ 1#8 → n ≤ c) (hle : n ≤ 70368744177664) (hp : 0 < np) (hsz : sz = 8 + 32 * np) :
  Calls Tryz.prog 31 #[.slice A n c, .int .u8 (n8 kind), .int .i64 (sz : Int)] w fun e w' => e = .returned (.int .i64 (parE b kind (if kind = 1#8 then 0#8 else 1#8) np : Nat)) ∧ St w0 X L w' := by
 obtain ⟨E, hE⟩ : ∃ E, E = parE b kind (if kind = 1#8 then 0#8 else 1#8) np := ⟨_, rfl⟩
 have hE0 := hE
 unfold parE at hE0
 rw [← hn, ← hsz] at hE0
 rw [← hE]
 by_cases h1 : n < sz
 ·have hli : (n : Int) < (sz : Int) := by omega
  have HR := Lib.hid (show E = 4 by rw [hE0, if_pos h1])
  clear hE hE0 h1 hsz hA hn
  go_enter Tryz.func31, Tryz.ntmps31
  go_wp2_with fail
  go_ret
  exact ⟨by rw [HR.out]; rfl, hs⟩
 have hli : ¬ ((n : Int) < (sz : Int)) := by omega
 by_cases h2 : sz < n
 ·have hgi : (sz : Int) < (n : Int) := by omega
  have HR := Lib.hid (show E = 5 by rw [hE0, if_neg h1, if_pos h2])
  clear hE hE0 h1 h2 hsz hA hn
  go_enter Tryz.func31, Tryz.ntmps31
  go_wp2_with fail
  go_ret
  exact ⟨by rw [HR.out]; rfl, hs⟩
 have hgi : ¬ ((sz : Int) < (n : Int)) := by omega
 obtain rfl : n = sz := by omega
 rw [if_neg h1, if_neg h2] at hE0
 clear h1 h2
 obtain ⟨g, o, rfl⟩ : ∃ g o, A = some ⟨g, o, none⟩ := by
  obtain ⟨g, o, h, _⟩ := Rd_cell (hA w hs.hold) 0 (v8_at b 0 (by omega))
  exact ⟨g, o, h⟩
 have C0 := Lib.hid (show Cell L g o (.int .u8 (n8 (b.getD 0 0#8))) by have h := hA.cell 0 (v8_at b 0 (by omega)); simpa using h)
 have C1 := Lib.hid (hA.cell 1 (v8_at b 1 (by omega)))
 rw [hd_k b (by omega), hd_f b (by omega)] at hE0
 obtain ⟨b0, hb0⟩ : ∃ x, x = b.getD 0 0#8 := ⟨_, rfl⟩
 obtain ⟨b1, hb1⟩ : ∃ x, x = b.getD 1 0#8 := ⟨_, rfl⟩
 obtain ⟨k1, hk1⟩ : ∃ k, k = b1.toNat := ⟨_, rfl⟩
 rw [← hb0] at C0 hE0
 rw [← hb1] at C1 hE0
 have hnk : n8 b1 = (k1 : Int) := by rw [hk1]; rfl
 rw [hnk] at C1
 have hpl : (b.drop (n - 32)).length = 32 := by simp; omega
 have hprt : prt b (np - 1) = b.drop (n - 32) := by
  unfold prt
  rw [show 8 + 32 * (np - 1) = n - 32 by omega, List.take_of_length_le (by omega)]
 rw [hprt] at hE0
 have i0 : (0 : Int) < (n : Int) := by omega
 have i1 : (1 : Int) < (n : Int) := by omega
 by_cases hk0 : b0 = kind
 ·have d0 : (n8 b0 != n8 kind) = false := by rw [hk0]; simp
  by_cases hkd : kind = 1#8
  ·have dk : (n8 kind == 1) = true := by rw [hkd]; rfl
   rw [if_pos hkd] at hE0
   by_cases hf : 0 < k1
   ·have d1 : decide ((0 : Int) < (k1 : Int)) = true := by simp; omega
    have HR := Lib.hid (show E = 6 by rw [hE0, if_pos (by right; left; rw [← hk1]; exact hf)])
    clear hE hE0 hb0 hb1 hk1 hpl hprt hA hn hsz hk0 hkd
    go_enter Tryz.func31, Tryz.ntmps31
    go_wp2_with (first | ((with_reducible refine Se.isL (o := ⟨some 20, _, _, _, _, _⟩) ?_); (refine Se.toL rfl (Se.ld (o := ⟨some 20, _, _, _, _, _⟩) hs rfl rfl (C0.out) (by kernel_rfl) ?_))) | ((with_reducible refine Se.isL (o := ⟨some 26, _, _, _, _, _⟩) ?_); (refine Se.toL rfl (Se.ld (o := ⟨some 26, _, _, _, _, _⟩) hs rfl rfl (C1.out) (by kernel_rfl) ?_))) | ((with_reducible refine Se.isL (o := ⟨some 35, _, _, _, _, _⟩) ?_); (refine Se.toL rfl (Se.ld (o := ⟨some 35, _, _, _, _, _⟩) hs rfl rfl (C1.out) (by kernel_rfl) ?_))))
    go_ret
    exact ⟨by rw [HR.out]; rfl, hs⟩
   ·have d1 : decide ((0 : Int) < (k1 : Int)) = false := by simp; omega
    have HR := Lib.hid (show E = 0 by rw [hE0, if_neg (by rw [← hk1]; rintro (h | h | h); exact h hk0; exact hf h; exact absurd h.1 (by decide))])
    clear hE hE0 hb0 hb1 hk1 hpl hprt hA hn hsz hk0 hkd
    go_enter Tryz.func31, Tryz.ntmps31
    go_wp2_with (first | ((with_reducible refine Se.isL (o := ⟨some 20, _, _, _, _, _⟩) ?_); (refine Se.toL rfl (Se.ld (o := ⟨some 20, _, _, _, _, _⟩) hs rfl rfl (C0.out) (by kernel_rfl) ?_))) | ((with_reducible refine Se.isL (o := ⟨some 26, _, _, _, _, _⟩) ?_); (refine Se.toL rfl (Se.ld (o := ⟨some 26, _, _, _, _, _⟩) hs rfl rfl (C1.out) (by kernel_rfl) ?_))) | ((with_reducible refine Se.isL (o := ⟨some 35, _, _, _, _, _⟩) ?_); (refine Se.toL rfl (Se.ld (o := ⟨some 35, _, _, _, _, _⟩) hs rfl rfl (C1.out) (by kernel_rfl) ?_))))
    go_ret
    exact ⟨by rw [HR.out]; rfl, hs⟩
  ·have dk : (n8 kind == 1) = false := by
    rw [show (1 : Int) = n8 1#8 from rfl, Bv.n8_beq]; simpa using hkd
   replace hc := hc hkd
   rw [if_neg hkd] at hE0
   by_cases hf : 1 < k1
   ·have d1 : decide ((1 : Int) < (k1 : Int)) = true := by simp; omega
    have HR := Lib.hid (show E = 6 by rw [hE0, if_pos (by right; left; rw [← hk1]; exact hf)])
    clear hE hE0 hb0 hb1 hk1 hpl hprt hA hn hsz hk0 hkd
    go_enter Tryz.func31, Tryz.ntmps31
    go_wp2_with (first | ((with_reducible refine Se.isL (o := ⟨some 20, _, _, _, _, _⟩) ?_); (refine Se.toL rfl (Se.ld (o := ⟨some 20, _, _, _, _, _⟩) hs rfl rfl (C0.out) (by kernel_rfl) ?_))) | ((with_reducible refine Se.isL (o := ⟨some 26, _, _, _, _, _⟩) ?_); (refine Se.toL rfl (Se.ld (o := ⟨some 26, _, _, _, _, _⟩) hs rfl rfl (C1.out) (by kernel_rfl) ?_))) | ((with_reducible refine Se.isL (o := ⟨some 35, _, _, _, _, _⟩) ?_); (refine Se.toL rfl (Se.ld (o := ⟨some 35, _, _, _, _, _⟩) hs rfl rfl (C1.out) (by kernel_rfl) ?_))))
    go_ret
    exact ⟨by rw [HR.out]; rfl, hs⟩
   ·have d1 : decide ((1 : Int) < (k1 : Int)) = false := by simp; omega
    by_cases hz : k1 = 0
    ·have d2 : ((k1 : Int) == 0) = true := by rw [hz]; rfl
     obtain ⟨Z, hZ⟩ : ∃ Z, Z = (b.drop (n - 32)).all (· == 0#8) := ⟨_, rfl⟩
     have hb1z : b1 = 0#8 := by apply BitVec.eq_of_toNat_eq; rw [← hk1, hz]; rfl
     have HRd := Lib.hid (show Reads L (some ⟨g, o + (n - 32), none⟩) ((b.drop (n - 32)).map v8) by rw [List.map_drop]; exact hA.at (n - 32))
     have HPL := Lib.hid hpl
     have CZ : Hid (∀ (d : Nat) (w : World), St w0 X L w → Calls Tryz.prog 45 #[.slice (some ⟨g, o + (n - 32), none⟩) 32 d] w fun e w' => e = .returned (.bool Z) ∧ St w0 X L w') := Lib.hid (fun d w hs => by rw [hZ]; exact rzeros_st hs HPL.out.symm HRd.out (by omega))
     have HR := Lib.hid (show E = if Z then 0 else 6 by
      rw [hZ, all_z hpl, hE0]
      by_cases hq : b.drop (n - 32) = z32
      ·rw [if_neg (by rw [← hk1]; rintro (h | h | h); exact h hk0; exact hf h; exact h.2.2 hq)]; simp [hq]
      ·rw [if_pos (by right; right; exact ⟨by decide, hb1z, hq⟩)]; simp [hq])
     obtain ⟨m, hm⟩ : ∃ m, m = n - 32 := ⟨_, rfl⟩
     have hm2 : (n : Int) - 32 = (m : Int) := by omega
     have hm3 : m ≤ n := by omega
     have hm4 : n - m = 32 := by omega
     have hm5 : m < c := by omega
     have hm6 : c ≠ m := by omega
     rw [← hm] at CZ
     clear hE hE0 hb0 hb1 hk1 hpl hprt hA hn hsz hk0 hkd hb1z HRd HPL hZ hm hf
     cases Z with
     | true =>
      go_enter Tryz.func31, Tryz.ntmps31
      go_wp2_with (first | ((with_reducible refine Se.isL (o := ⟨some 20, _, _, _, _, _⟩) ?_); (refine Se.toL rfl (Se.ld (o := ⟨some 20, _, _, _, _, _⟩) hs rfl rfl (C0.out) (by kernel_rfl) ?_))) | ((with_reducible refine Se.isL (o := ⟨some 26, _, _, _, _, _⟩) ?_); (refine Se.toL rfl (Se.ld (o := ⟨some 26, _, _, _, _, _⟩) hs rfl rfl (C1.out) (by kernel_rfl) ?_))) | ((with_reducible refine Se.isL (o := ⟨some 35, _, _, _, _, _⟩) ?_); (refine Se.toL rfl (Se.ld (o := ⟨some 35, _, _, _, _, _⟩) hs rfl rfl (C1.out) (by kernel_rfl) ?_))) | (go_at_call 45; refine Calls.mono (CZ.out _ _ hs) ?_; clear hs; rintro e w ⟨rfl, hs⟩))
      go_ret
      exact ⟨by rw [HR.out]; rfl, hs⟩
     | false =>
      go_enter Tryz.func31, Tryz.ntmps31
      go_wp2_with (first | ((with_reducible refine Se.isL (o := ⟨some 20, _, _, _, _, _⟩) ?_); (refine Se.toL rfl (Se.ld (o := ⟨some 20, _, _, _, _, _⟩) hs rfl rfl (C0.out) (by kernel_rfl) ?_))) | ((with_reducible refine Se.isL (o := ⟨some 26, _, _, _, _, _⟩) ?_); (refine Se.toL rfl (Se.ld (o := ⟨some 26, _, _, _, _, _⟩) hs rfl rfl (C1.out) (by kernel_rfl) ?_))) | ((with_reducible refine Se.isL (o := ⟨some 35, _, _, _, _, _⟩) ?_); (refine Se.toL rfl (Se.ld (o := ⟨some 35, _, _, _, _, _⟩) hs rfl rfl (C1.out) (by kernel_rfl) ?_))) | (go_at_call 45; refine Calls.mono (CZ.out _ _ hs) ?_; clear hs; rintro e w ⟨rfl, hs⟩))
      go_ret
      exact ⟨by rw [HR.out]; rfl, hs⟩
    ·have d2 : ((k1 : Int) == 0) = false := by simp; omega
     have HR := Lib.hid (show E = 0 by rw [hE0, if_neg (by rw [← hk1]; rintro (h | h | h); exact h hk0; exact hf h; exact hz (by rw [hk1, h.2.1]; rfl))])
     clear hE hE0 hb0 hb1 hk1 hpl hprt hA hn hsz hk0 hkd
     go_enter Tryz.func31, Tryz.ntmps31
     go_wp2_with (first | ((with_reducible refine Se.isL (o := ⟨some 20, _, _, _, _, _⟩) ?_); (refine Se.toL rfl (Se.ld (o := ⟨some 20, _, _, _, _, _⟩) hs rfl rfl (C0.out) (by kernel_rfl) ?_))) | ((with_reducible refine Se.isL (o := ⟨some 26, _, _, _, _, _⟩) ?_); (refine Se.toL rfl (Se.ld (o := ⟨some 26, _, _, _, _, _⟩) hs rfl rfl (C1.out) (by kernel_rfl) ?_))) | ((with_reducible refine Se.isL (o := ⟨some 35, _, _, _, _, _⟩) ?_); (refine Se.toL rfl (Se.ld (o := ⟨some 35, _, _, _, _, _⟩) hs rfl rfl (C1.out) (by kernel_rfl) ?_))))
     go_ret
     exact ⟨by rw [HR.out]; rfl, hs⟩
 ·have d0 : (n8 b0 != n8 kind) = true := by simp [bne, Bv.n8_beq, hk0]
  have HR := Lib.hid (show E = 6 by rw [hE0, if_pos (.inl hk0)])
  by_cases hkd : kind = 1#8
  ·have dk : (n8 kind == 1) = true := by rw [hkd]; rfl
   clear hE hE0 hb0 hb1 hk1 hpl hprt hA hn hsz hk0 hkd
   go_enter Tryz.func31, Tryz.ntmps31
   go_wp2_with (first | ((with_reducible refine Se.isL (o := ⟨some 20, _, _, _, _, _⟩) ?_); (refine Se.toL rfl (Se.ld (o := ⟨some 20, _, _, _, _, _⟩) hs rfl rfl (C0.out) (by kernel_rfl) ?_))) | ((with_reducible refine Se.isL (o := ⟨some 26, _, _, _, _, _⟩) ?_); (refine Se.toL rfl (Se.ld (o := ⟨some 26, _, _, _, _, _⟩) hs rfl rfl (C1.out) (by kernel_rfl) ?_))) | ((with_reducible refine Se.isL (o := ⟨some 35, _, _, _, _, _⟩) ?_); (refine Se.toL rfl (Se.ld (o := ⟨some 35, _, _, _, _, _⟩) hs rfl rfl (C1.out) (by kernel_rfl) ?_))))
   go_ret
   exact ⟨by rw [HR.out]; rfl, hs⟩
  ·have dk : (n8 kind == 1) = false := by
    rw [show (1 : Int) = n8 1#8 from rfl, Bv.n8_beq]; simpa using hkd
   clear hE hE0 hb0 hb1 hk1 hpl hprt hA hn hsz hk0 hkd
   go_enter Tryz.func31, Tryz.ntmps31
   go_wp2_with (first | ((with_reducible refine Se.isL (o := ⟨some 20, _, _, _, _, _⟩) ?_); (refine Se.toL rfl (Se.ld (o := ⟨some 20, _, _, _, _, _⟩) hs rfl rfl (C0.out) (by kernel_rfl) ?_))) | ((with_reducible refine Se.isL (o := ⟨some 26, _, _, _, _, _⟩) ?_); (refine Se.toL rfl (Se.ld (o := ⟨some 26, _, _, _, _, _⟩) hs rfl rfl (C1.out) (by kernel_rfl) ?_))) | ((with_reducible refine Se.isL (o := ⟨some 35, _, _, _, _, _⟩) ?_); (refine Se.toL rfl (Se.ld (o := ⟨some 35, _, _, _, _, _⟩) hs rfl rfl (C1.out) (by kernel_rfl) ?_))))
   go_ret
   exact ⟨by rw [HR.out]; rfl, hs⟩
end Au
end Go.Proofs.YtakdoijemopejaaGreat
/- Bytes as strings. No condition. -/
namespace Go.Proofs.YtakdoijemopejaaGreat
open Go Go.RowKit
namespace Au
open Se (St At Reads Cell)
open Li (v8 v8_one Rd Blk Fr)
open Bv (n8 n16 n32 n64)
/-- Bytes as a string. -/
def toS (b : Bs) : ByteArray := ⟨(b.map UInt8.ofBitVec).toArray⟩
theorem toS_inj {a b : Bs} (h : toS a = toS b) : a = b := by
 unfold toS at h
 have h1 : a.map UInt8.ofBitVec = b.map UInt8.ofBitVec := by
  have := congrArg ByteArray.data h
  simpa using this
 have h2 := congrArg (List.map UInt8.toBitVec) h1
 simpa [List.map_map, Function.comp_def] using h2
theorem conv_str {w : World} {g o n c : Nat} {b : Bs} (hn : n = b.length) (h : Rd w (some ⟨g, o, none⟩) (b.map v8)) : (convert 22 9 (.slice (some ⟨g, o, none⟩) n c)).run Tryz.prog w = .ok (.string (toS b)) w := by
 have e : n = (b.map UInt8.ofBitVec).length := by rw [hn, List.length_map]
 rw [e]
 refine run_convert_bytes_back w 22 9 5 ⟨g, o, none⟩ c (b.map UInt8.ofBitVec) Tryz.underlying22 Tryz.underlying5 Tryz.underlying9 (fun j hj => ?_)
 have hj2 : j < b.length := by simpa using hj
 obtain ⟨g2, o2, e2, hc⟩ := Rd_cell h j (v8_at b j hj2)
 cases e2
 rw [Addr.add_lit, hc]
 simp [hj2, n8]
theorem str_beq (a b : ByteArray) : (a.toList == b.toList) = decide (a = b) := by
 rw [ByteArray.toList_eq, ByteArray.toList_eq, Bool.eq_iff_iff]
 simp only [beq_iff_eq, decide_eq_true_eq]
 exact ⟨fun h => by cases a; cases b; congr; exact Array.toList_inj.1 h, fun h => by rw [h]⟩
/-- Two strings of bytes are held against each other. -/
theorem xsne {ρ : Operand → Value} {o : Oper} {w : World} {t u : TypeId} {x y : Operand} (ho : o.op = .binOp .neq t x y u) {a b : Bs} (hx : ρ x = .string (toS a)) (hy : ρ y = .string (toS b)) {D : Bool} (hD : D = decide (a ≠ b)) : (execOp ρ o).run Tryz.prog w = .ok (.value (.bool D)) w := by
 have e : ((toS a).toList == (toS b).toList) = !D := by
  rw [hD, str_beq, ← decide_not, Bool.eq_iff_iff]
  simp only [decide_eq_true_eq, ne_eq, Decidable.not_not]
  exact ⟨fun h => toS_inj h, fun h => by rw [h]⟩
 unfold execOp
 simp only [ho, hx, hy, Sem.run_bind]
 simp [go_sem, e]
/-- Bytes become a string. -/
theorem xcs {ρ : Operand → Value} {o : Oper} {w : World} {x : Operand} (ho : o.op = .convert 22 9 x) {g i n c : Nat} (hx : ρ x = .slice (some ⟨g, i, none⟩) n c) {b : Bs} (hn : n = b.length) (h : Rd w (some ⟨g, i, none⟩) (b.map v8)) : (execOp ρ o).run Tryz.prog w = .ok (.value (.string (toS b))) w := by
 unfold execOp
 simp only [ho, hx, Sem.run_bind, conv_str hn h, Result.andThen_ok, Sem.run_pure]
theorem gcs {w0 w : World} {X : List Nat} {L : List At} (hs : St w0 X L w) {o : Oper} {a : Act} {G : Value → World → Prop} {x : Operand} (ho : o.op = .convert 22 9 x) {g i n c : Nat} (hx : a.eval x = .slice (some ⟨g, i, none⟩) n c) {b : Bs} (hn : n = b.length) (h : Reads L (some ⟨g, i, none⟩) (b.map v8)) (hk : G (.string (toS b)) w) : Hv.Gives Tryz.prog o a w G := by
 unfold Hv.Gives
 rw [xcs ho hx hn (h w hs.hold)]
 exact hk
end Au
end Go.Proofs.YtakdoijemopejaaGreat
/- Layer 38: the reference's verifier on values. No condition but Go's own limits. -/
namespace Go.Proofs.YtakdoijemopejaaGreat
open Go Go.RowKit
namespace Au
open Se (St At Reads Cell)
open Li (v8 v8_one Rd Blk Fr)
open Bv (n8 n16 n32 n64)
variable {w0 w : World} {X : List Nat} {L M : List At}
attribute [local irreducible] Calls
/-- The reference's verifier, its cells. -/
def rvc (v : Vs) (A : Option Addr) (c : Nat) : List Value := pcl v.p A c ++ [.int .u32 (n32 v.h.s), .int .u16 (n16 v.h.q)] ++ v.n.map v8 ++ [.bool v.o, .bool v.d]
theorem rvc_len {v : Vs} (h : v.n.length = 32) (A : Option Addr) (c : Nat) : (rvc v A c).length = 39 := by simp [rvc, pcl, h]
theorem rvc_one (v : Vs) (A : Option Addr) (c : Nat) : ∀ x ∈ rvc v A c, x.oneCell' = true := by
 intro x hx
 simp only [rvc, List.mem_append, List.mem_cons, List.not_mem_nil, or_false] at hx
 rcases hx with ((h | h) | h) | h
 ·exact pcl_one _ _ _ x h
 ·rcases h with rfl | rfl <;> rfl
 ·exact v8_one _ x h
 ·rcases h with rfl | rfl <;> rfl
theorem rvI : (Tryz.prog.info? 36).bind (fun i => i.zero.map (·.cells.toList)) = some (rvc { p := ⟨[], ⟨#[]⟩, ⟨#[]⟩⟩ } none 0) := by kernel_rfl
theorem rvc_3 (v : Vs) (A : Option Addr) (c : Nat) : (rvc v A c)[3]? = some (.int .u32 (n32 v.h.s)) := rfl
theorem rvc_4 (v : Vs) (A : Option Addr) (c : Nat) : (rvc v A c)[4]? = some (.int .u16 (n16 v.h.q)) := rfl
theorem rvc_setS (v : Vs) (A : Option Addr) (c : Nat) (s : BitVec 32) : (rvc v A c).set 3 (.int .u32 (n32 s)) = rvc { v with h := { v.h with s := s } } A c := by simp [rvc, pcl]
theorem rvc_setQ (v : Vs) (A : Option Addr) (c : Nat) (q : BitVec 16) : (rvc v A c).set 4 (.int .u16 (n16 q)) = rvc { v with h := { v.h with q := q } } A c := by simp [rvc, pcl]
theorem rvc_setN {v : Vs} (hn : v.n.length = 32) (A : Option Addr) (c : Nat) {n : Bs} (h : n.length = 32) : (rvc v A c).take 5 ++ n.map v8 ++ (rvc v A c).drop (5 + (n.map v8).length) = rvc { v with n := n } A c := by
 rw [List.length_map, h]
 unfold rvc
 rw [show pcl v.p A c ++ [.int .u32 (n32 v.h.s), .int .u16 (n16 v.h.q)] ++ v.n.map v8 ++ [.bool v.o, .bool v.d] = (pcl v.p A c ++ [.int .u32 (n32 v.h.s), .int .u16 (n16 v.h.q)]) ++ (v.n.map v8 ++ [.bool v.o, .bool v.d]) by simp]
 rw [List.take_append_of_le_length (by simp [pcl]), List.take_of_length_le (by simp [pcl]), show 5 + 32 = (pcl v.p A c ++ [Value.int .u32 (n32 v.h.s), .int .u16 (n16 v.h.q)]).length + 32 by simp [pcl], ← List.drop_drop, List.drop_left, show 32 = (v.n.map v8).length by simp [hn], List.drop_left]
theorem rvc_setO {v : Vs} (hn : v.n.length = 32) (A : Option Addr) (c : Nat) (b : Bool) : (rvc v A c).set 37 (.bool b) = rvc { v with o := b } A c := by
 unfold rvc
 rw [List.set_append_right _ _ (by simp [pcl, hn])]
 simp [pcl, hn]
theorem rvc_setD {v : Vs} (hn : v.n.length = 32) (A : Option Addr) (c : Nat) (b : Bool) : (rvc v A c).set 38 (.bool b) = rvc { v with d := b } A c := by
 unfold rvc
 rw [List.set_append_right _ _ (by simp [pcl, hn])]
 simp [pcl, hn]
theorem n32_le (a b : BitVec 32) : (n32 a ≤ n32 b) = (a.toNat ≤ b.toNat) := by unfold n32; simp
set_option maxRecDepth 100000 in
set_option maxHeartbeats 4000000 in
theorem rchal_st (hs : St w0 X L w) (v : Vs) (A : Option Addr) (c : Nat) (hv : v.n.length = 32) (nonce : Bs) (hn : nonce.length = 32) (seq : BitVec 32) (q : BitVec 16) :
  Calls Tryz.prog 11 #[.agg (rvc v A c).toArray, .agg (nonce.map v8).toArray, .int .u32 (n32 seq), .int .u16 (n16 q)] w fun e w' => ∃ r B cb, e = .returned (.tuple #[.agg (rvc (chalS v nonce seq q).1 A c).toArray, .slice B (chalS v nonce seq q).2.1.length cb, .int .i64 ((chalS v nonce seq q).2.2 : Nat)]) ∧ St w0 X (.own 1 r B (chalS v nonce seq q).2.1.length cb ((chalS v nonce seq q).2.1.map v8) :: L) w' := by
 obtain ⟨RV, hRV⟩ : ∃ RV, RV = rvc v A c := ⟨_, rfl⟩
 obtain ⟨NV, hNV⟩ : ∃ NV, NV = nonce.map v8 := ⟨_, rfl⟩
 obtain ⟨Z, hZ⟩ : ∃ Z, Z = rvc { p := ⟨[], ⟨#[]⟩, ⟨#[]⟩⟩ } none 0 := ⟨_, rfl⟩
 have aI := Lib.hid rvI
 have ZL := Lib.hid (show Z.length = 39 by rw [hZ]; exact rvc_len rfl _ _)
 rw [← hZ] at aI
 have RL := Lib.hid (show RV.length = 39 by rw [hRV]; exact rvc_len hv _ _)
 have RO := Lib.hid (show ∀ x ∈ RV, x.oneCell' = true by rw [hRV]; exact rvc_one _ _ _)
 have R3 := Lib.hid (show RV[3]? = some (.int .u32 (n32 v.h.s)) by rw [hRV]; rfl)
 have NL := Lib.hid (show NV.length = 32 by rw [hNV]; simpa using hn)
 have NO := Lib.hid (show ∀ x ∈ NV, x.oneCell' = true by rw [hNV]; exact v8_one _)
 by_cases hle : seq.toNat ≤ v.h.s.toNat
 ·have d : decide (n32 seq ≤ n32 v.h.s) = true := by rw [decide_eq_true_eq, n32_le]; exact hle
  rw [show chalS v nonce seq q = (v, [], 2) from if_pos hle, ← hRV, ← hNV]
  clear hle hRV hNV hZ
  go_enter Tryz.func11, Tryz.ntmps11
  go_wp2_with (first | ((with_reducible refine Se.isL (o := ⟨some 8, _, _, _, _, _⟩) ?_); (refine Se.toL rfl (Se.al (o := ⟨some 8, _, _, _, _, _⟩) hs rfl (aI.out) ?_); clear hs; rintro w g8 - hs)) | ((with_reducible refine Se.isL (o := ⟨some 13, _, _, _, _, _⟩) ?_); (refine Se.toL rfl (Se.ld (o := ⟨some 13, _, _, _, _, _⟩) hs rfl rfl (Cell.blk 2 rfl R3.out) (by kernel_rfl) ?_))) | ((with_reducible refine Se.isL (o := ⟨some 15, _, _, _, _, _⟩) ?_); (refine Se.toL rfl (Se.ldw (o := ⟨some 15, _, _, _, _, _⟩) hs rfl rfl ((Reads.blk 2 rfl)) ((by rw [RL.out]; kernel_rfl)) (by kernel_rfl) ?_))) | ((with_reducible refine Se.isL (o := ⟨none, _, _, _, _, _⟩) ?_); (refine Se.toL rfl (Se.sow 0 hs rfl rfl rfl rfl (RO.out) ((by rw [RL.out]; kernel_rfl)) ((by rw [RL.out, ZL.out])) ?_); clear hs; intro w hs; try simp only [List.cons_append, List.nil_append, List.set_cons_zero] at hs)) | ((first | with_reducible refine Se.ab hs ?_ | with_reducible refine Se.abc hs ?_); clear hs; (first | ((fail_if_success (have _q := g4)); generalize w.heap.size = g4; intro w hs) | (generalize w.heap.size = g5; intro w hs))))
  refine Se.ret hs [.agg RV.toArray, .slice none 0 0, .int .i64 2] rfl ⟨Se.resRow rfl (Reads.blk 0 rfl) (by kernel_rfl) (by rw [RL.out]; kernel_rfl), rfl, rfl, trivial⟩ (by simp) rfl ?_
  exact ⟨none, none, 0, rfl, hs.drop.drop.drop.nil_own 1 none⟩
 ·have d : decide (n32 seq ≤ n32 v.h.s) = false := by rw [decide_eq_false_iff_not, n32_le]; exact hle
  obtain ⟨V5, hV5⟩ : ∃ V5, V5 = rvc { v with h := { k := 1#8, q := q, s := seq }, n := nonce, o := true, d := false } A c := ⟨_, rfl⟩
  obtain ⟨V4, hV4⟩ : ∃ V4, V4 = rvc { v with h := { v.h with s := seq, q := q }, n := nonce, o := true } A c := ⟨_, rfl⟩
  obtain ⟨V3, hV3⟩ : ∃ V3, V3 = rvc { v with h := { v.h with s := seq, q := q }, n := nonce } A c := ⟨_, rfl⟩
  obtain ⟨V2, hV2⟩ : ∃ V2, V2 = rvc { v with h := { v.h with s := seq, q := q } } A c := ⟨_, rfl⟩
  obtain ⟨V1, hV1⟩ : ∃ V1, V1 = rvc { v with h := { v.h with s := seq } } A c := ⟨_, rfl⟩
  obtain ⟨HL, hHL⟩ : ∃ HL, HL = (headL ⟨1#8, 0#8, q, seq⟩).map v8 := ⟨_, rfl⟩
  have E1 := Lib.hid (show RV.set 3 (.int .u32 (n32 seq)) = V1 by rw [hRV, hV1, rvc_setS])
  have E2 := Lib.hid (show V1.set 4 (.int .u16 (n16 q)) = V2 by rw [hV1, hV2, rvc_setQ])
  have E3 := Lib.hid (show V2.take 5 ++ NV ++ V2.drop (5 + NV.length) = V3 by rw [hV2, hV3, hNV]; exact rvc_setN (v := { v with h := { v.h with s := seq, q := q } }) hv A c hn)
  have E4 := Lib.hid (show V3.set 37 (.bool true) = V4 by rw [hV3, hV4]; exact rvc_setO (v := { v with h := { v.h with s := seq, q := q }, n := nonce }) hn A c true)
  have E5 := Lib.hid (show V4.set 38 (.bool false) = V5 by rw [hV4, hV5]; exact rvc_setD (v := { v with h := { v.h with s := seq, q := q }, n := nonce, o := true }) hn A c false)
  have L1 := Lib.hid (show V1.length = 39 by rw [hV1]; exact rvc_len (v := { v with h := { v.h with s := seq } }) hv _ _)
  have L2 := Lib.hid (show V2.length = 39 by rw [hV2]; exact rvc_len (v := { v with h := { v.h with s := seq, q := q } }) hv _ _)
  have L3 := Lib.hid (show V3.length = 39 by rw [hV3]; exact rvc_len (v := { v with h := { v.h with s := seq, q := q }, n := nonce }) hn _ _)
  have L4 := Lib.hid (show V4.length = 39 by rw [hV4]; exact rvc_len (v := { v with h := { v.h with s := seq, q := q }, n := nonce, o := true }) hn _ _)
  have L5 := Lib.hid (show V5.length = 39 by rw [hV5]; exact rvc_len (v := { v with h := { k := 1#8, q := q, s := seq }, n := nonce, o := true, d := false }) hn _ _)
  have O5 := Lib.hid (show ∀ x ∈ V5, x.oneCell' = true by rw [hV5]; exact rvc_one _ _ _)
  have HM := Lib.hid (show HL ++ NV = (msg ⟨1#8, 0#8, q, seq⟩ [nonce]).map v8 by rw [hHL, hNV]; simp [msg])
  have ML := Lib.hid (show (msg ⟨1#8, 0#8, q, seq⟩ [nonce]).length = 8 + 32 by unfold msg; simp [headL_len, hn])
  have CH : Hid (∀ (L' : List At) (w : World), St w0 X L' w → Calls Tryz.prog 30 #[.int .i64 1, .int .i64 0, .int .u16 (n16 q), .int .u32 (n32 seq)] w fun e w' => ∃ r A c, e = .returned (.slice A 8 c) ∧ St w0 X (.own 1 r A 8 c HL :: L') w') := Lib.hid (fun L' w hs => by rw [hHL]; exact rhead_st hs ⟨1#8, 0#8, q, seq⟩)
  rw [show chalS v nonce seq q = ({ v with h := { k := 1#8, q := q, s := seq }, n := nonce, o := true, d := false }, msg ⟨1#8, 0#8, q, seq⟩ [nonce], 0) from if_neg hle]
  simp only []
  rw [← hV5, ← HM.out, ML.out, ← hRV, ← hNV]
  clear hle hRV hNV hZ hV1 hV2 hV3 hV4 hV5 hHL hv hn HM ML
  go_enter Tryz.func11, Tryz.ntmps11
  go_upto_region 3 with (first | ((with_reducible refine Se.isL (o := ⟨some 8, _, _, _, _, _⟩) ?_); (refine Se.toL rfl (Se.al (o := ⟨some 8, _, _, _, _, _⟩) hs rfl (aI.out) ?_); clear hs; rintro w g8 - hs)) | ((with_reducible refine Se.isL (o := ⟨some 13, _, _, _, _, _⟩) ?_); (refine Se.toL rfl (Se.ld (o := ⟨some 13, _, _, _, _, _⟩) hs rfl rfl (Cell.blk 2 rfl R3.out) (by kernel_rfl) ?_))) | ((first | with_reducible refine Se.ab hs ?_ | with_reducible refine Se.abc hs ?_); clear hs; (first | ((fail_if_success (have _q := g4)); generalize w.heap.size = g4; intro w hs) | (generalize w.heap.size = g5; intro w hs))))
  refine Ch.region' 13 (fun wx => Blk wx g5 NV 34) (fun | 4 => true | 6 => true | 8 => true | 10 => true | 12 => true | _ => false) (by kernel_rfl) (by decide +kernel) (hs.drew.hold (.blk g5 34 NV) (by simp)) ?_
  replace hs := hs.drew
  generalize w.drew = w at hs ⊢
  change Ch.CW _ _ _ _ _ [0, 1, 2, 3, 4, 5, 6, 7, 8, 9, 10, 11, 12] _ _
  iterate 4 ((first | (refine Ch.pure (v := ?_) (by rfl) (by rfl) (by rfl) (fun wx hS => ?_) ?_; rotate_left; (focus (go_simp; (first | done | with_reducible rfl)))) | refine Ch.pure (v := _) (by rfl) (by rfl) (by rfl) (fun wx hS => Se.xla rfl rfl (Li.Rd.of_blk hS) (by rw [NL.out]; kernel_rfl) (by decide +kernel)) ?_); (try simp only [Act.put, List.setIfInBounds_toArray, List.set_cons_zero, List.set_cons_succ]))
  refine Ch.noise (by rfl) (by rfl) (by rfl) (Se.soq 2 (v := .int .u32 (n32 seq)) hs rfl rfl rfl rfl rfl (by kernel_rfl) (by rw [RL.out]; omega) E1.out ?_)
  clear hs
  intro w hs
  simp only [List.set_cons_zero, List.set_cons_succ] at hs
  refine ⟨hs.hold (.blk g5 34 NV) (by simp), ?_⟩
  (try simp only [Act.put, List.setIfInBounds_toArray, List.set_cons_zero, List.set_cons_succ])
  iterate 1 (refine Ch.pure (v := ?_) (by rfl) (by rfl) (by rfl) (fun wx hS => ?_) ?_; rotate_left; (focus (go_simp; (first | done | with_reducible rfl))); (try simp only [Act.put, List.setIfInBounds_toArray, List.set_cons_zero, List.set_cons_succ]))
  refine Ch.noise (by rfl) (by rfl) (by rfl) (Se.soq 2 (v := .int .u16 (n16 q)) hs rfl rfl rfl rfl rfl (by kernel_rfl) (by rw [L1.out]; omega) E2.out ?_)
  clear hs
  intro w hs
  simp only [List.set_cons_zero, List.set_cons_succ] at hs
  refine ⟨hs.hold (.blk g5 34 NV) (by simp), ?_⟩
  (try simp only [Act.put, List.setIfInBounds_toArray, List.set_cons_zero, List.set_cons_succ])
  iterate 1 (refine Ch.pure (v := ?_) (by rfl) (by rfl) (by rfl) (fun wx hS => ?_) ?_; rotate_left; (focus (go_simp; (first | done | with_reducible rfl))); (try simp only [Act.put, List.setIfInBounds_toArray, List.set_cons_zero, List.set_cons_succ]))
  refine Ch.noise (by rfl) (by rfl) (by rfl) (Au.soaq 2 (vs := NV) hs rfl rfl rfl rfl NO.out (by rw [NL.out]; kernel_rfl) (by rw [NL.out, L2.out]; omega) E3.out ?_)
  clear hs
  intro w hs
  simp only [List.set_cons_zero, List.set_cons_succ] at hs
  refine ⟨hs.hold (.blk g5 34 NV) (by simp), ?_⟩
  (try simp only [Act.put, List.setIfInBounds_toArray, List.set_cons_zero, List.set_cons_succ])
  iterate 1 (refine Ch.pure (v := ?_) (by rfl) (by rfl) (by rfl) (fun wx hS => ?_) ?_; rotate_left; (focus (go_simp; (first | done | with_reducible rfl))); (try simp only [Act.put, List.setIfInBounds_toArray, List.set_cons_zero, List.set_cons_succ]))
  refine Ch.noise (by rfl) (by rfl) (by rfl) (Se.soq 2 (v := .bool true) hs rfl rfl rfl rfl rfl (by kernel_rfl) (by rw [L3.out]; omega) E4.out ?_)
  clear hs
  intro w hs
  simp only [List.set_cons_zero, List.set_cons_succ] at hs
  refine ⟨hs.hold (.blk g5 34 NV) (by simp), ?_⟩
  (try simp only [Act.put, List.setIfInBounds_toArray, List.set_cons_zero, List.set_cons_succ])
  iterate 1 (refine Ch.pure (v := ?_) (by rfl) (by rfl) (by rfl) (fun wx hS => ?_) ?_; rotate_left; (focus (go_simp; (first | done | with_reducible rfl))); (try simp only [Act.put, List.setIfInBounds_toArray, List.set_cons_zero, List.set_cons_succ]))
  refine Ch.noise (by rfl) (by rfl) (by rfl) (Se.soq 2 (v := .bool false) hs rfl rfl rfl rfl rfl (by kernel_rfl) (by rw [L4.out]; omega) E5.out ?_)
  clear hs
  intro w hs
  simp only [List.set_cons_zero, List.set_cons_succ] at hs
  refine ⟨hs.hold (.blk g5 34 NV) (by simp), ?_⟩
  (try simp only [Act.put, List.setIfInBounds_toArray, List.set_cons_zero, List.set_cons_succ])
  refine Ch.done ?_
  try simp only [List.drop_succ_cons, List.drop_zero]
  clear E1 E2 E3 E4 E5 L1 L2 L3 L4 R3
  go_upto_region 4 with (fail)
  refine Ch.region' 9 (fun wx => Blk wx g4 V5 36) (fun | 3 => true | 5 => true | 6 => true | _ => false) (by kernel_rfl) (by decide +kernel) (hs.drew.hold (.blk g4 36 V5) (by simp)) ?_
  replace hs := hs.drew
  generalize w.drew = w at hs ⊢
  change Ch.CW _ _ _ _ _ [0, 1, 2, 3, 4, 5, 6, 7, 8] _ _
  iterate 3 ((first | (refine Ch.pure (v := ?_) (by rfl) (by rfl) (by rfl) (fun wx hS => ?_) ?_; rotate_left; (focus (go_simp; (first | done | with_reducible rfl)))) | refine Ch.pure (v := _) (by rfl) (by rfl) (by rfl) (fun wx hS => Se.xla rfl rfl (Li.Rd.of_blk hS) (by rw [L5.out]; kernel_rfl) (by decide +kernel)) ?_); (try simp only [Act.put, List.setIfInBounds_toArray, List.set_cons_zero, List.set_cons_succ]))
  refine Ch.noise (by rfl) (by rfl) (by rfl) ?_
  refine Se.gcall (f := 30) (args := #[.int .i64 1, .int .i64 0, .int .u16 (n16 q), .int .u32 (n32 seq)]) ?_ ?_
  ·go_simp
  refine Calls.mono (CH.out _ _ hs) ?_
  clear hs
  rintro e w ⟨r, B, cb, rfl, hs⟩
  refine ⟨_, rfl, hs.hold (.blk g4 36 V5) (by simp), ?_⟩
  (try simp only [Act.put, List.setIfInBounds_toArray, List.set_cons_zero, List.set_cons_succ])
  iterate 1 (refine Ch.pure (v := ?_) (by rfl) (by rfl) (by rfl) (fun wx hS => ?_) ?_; rotate_left; (focus (go_simp; (first | done | with_reducible rfl))); (try simp only [Act.put, List.setIfInBounds_toArray, List.set_cons_zero, List.set_cons_succ]))
  refine Ch.noise (by rfl) (by rfl) (by rfl) (Se.ap 0 hs rfl rfl rfl rfl (Reads.blk 2 rfl) Tryz.underlying22 u8i3 rfl (by decide) NO.out (by rw [NL.out]) (by omega) (by omega) ?_)
  clear hs
  rintro w r2 B2 c2 hs
  simp only [List.set_cons_zero] at hs
  refine ⟨hs.hold (.blk g4 36 V5) (by simp), ?_⟩
  (try simp only [Act.put, List.setIfInBounds_toArray, List.set_cons_zero, List.set_cons_succ])
  refine Ch.noise (by rfl) (by rfl) (by rfl) (Se.sow 1 (vs := V5) hs rfl rfl rfl rfl O5.out (by rw [L5.out]; kernel_rfl) (by rw [L5.out, ZL.out]) ?_)
  clear hs
  intro w hs
  simp only [List.set_cons_zero, List.set_cons_succ] at hs
  refine ⟨hs.hold (.blk g4 36 V5) (by simp), ?_⟩
  (try simp only [Act.put, List.setIfInBounds_toArray, List.set_cons_zero, List.set_cons_succ])
  iterate 2 (refine Ch.pure (v := ?_) (by rfl) (by rfl) (by rfl) (fun wx hS => ?_) ?_; rotate_left; (focus (go_simp; (first | done | with_reducible rfl))); (try simp only [Act.put, List.setIfInBounds_toArray, List.set_cons_zero, List.set_cons_succ]))
  refine Ch.done ?_
  try simp only [List.drop_succ_cons, List.drop_zero]
  go_wp2_with fail
  refine Se.ret hs [.agg V5.toArray, .slice B2 (8 + 32) c2, .int .i64 0] rfl ⟨Se.resRow rfl (Reads.blk 1 rfl) (by kernel_rfl) (by rw [L5.out]; kernel_rfl), rfl, rfl, trivial⟩ (by simp) rfl ?_
  replace hs := hs.pull 0 rfl
  replace hs := hs.pull 3 rfl
  replace hs := hs.pull 3 rfl
  replace hs := hs.pull 3 rfl
  simp only [List.eraseIdx_cons_succ, List.eraseIdx_cons_zero] at hs
  exact ⟨r2, B2, c2, rfl, hs.drop.drop.drop⟩
end Au
end Go.Proofs.YtakdoijemopejaaGreat
/- Layer 38: the reference's Check on values. No condition but Go's own limits. -/
namespace Go.Proofs.YtakdoijemopejaaGreat
open Go Go.RowKit
namespace Au
open Se (St At Reads Cell)
open Li (v8 v8_one Rd Blk Fr)
open Bv (n8 n16 n32 n64)
variable {w0 w : World} {X : List Nat} {L M : List At}
attribute [local irreducible] Calls
theorem rvc_37 {v : Vs} (h : v.n.length = 32) (A : Option Addr) (c : Nat) : (rvc v A c)[37]? = some (.bool v.o) := by
 unfold rvc
 rw [List.getElem?_append_right (by simp [pcl, h])]
 simp [pcl, h]
set_option maxRecDepth 100000 in
set_option maxHeartbeats 4000000 in
theorem rchk0_st (hs : St w0 X L w) (v : Vs) (A B : Option Addr) (c n cb : Nat) (hv : v.n.length = 32) (b : Bs) (hn : n = b.length) (hB : Reads L B (b.map v8)) (hc : n ≤ cb) (hle : n ≤ 1000) (hE : parE b 2#8 1#8 2 ≠ 0 ∨ v.o = false) :
  Calls Tryz.prog 16 #[.agg (rvc v A c).toArray, .slice B n cb] w fun e w' => ∃ r B cb, e = .returned (.tuple #[.agg (rvc (checkS v b).1 A c).toArray, .slice B (checkS v b).2.1.length cb, .int .i64 ((checkS v b).2.2 : Nat)]) ∧ St w0 X (.own 1 r B (checkS v b).2.1.length cb ((checkS v b).2.1.map v8) :: L) w' := by
 obtain ⟨RV, hRV⟩ : ∃ RV, RV = rvc v A c := ⟨_, rfl⟩
 obtain ⟨Z, hZ⟩ : ∃ Z, Z = rvc { p := ⟨[], ⟨#[]⟩, ⟨#[]⟩⟩ } none 0 := ⟨_, rfl⟩
 obtain ⟨E, hEE⟩ : ∃ E, E = parE b 2#8 1#8 2 := ⟨_, rfl⟩
 have aI := Lib.hid rvI
 have ZL := Lib.hid (show Z.length = 39 by rw [hZ]; exact rvc_len rfl _ _)
 rw [← hZ] at aI
 have RL := Lib.hid (show RV.length = 39 by rw [hRV]; exact rvc_len hv _ _)
 have RO := Lib.hid (show ∀ x ∈ RV, x.oneCell' = true by rw [hRV]; exact rvc_one _ _ _)
 have R37 := Lib.hid (show RV[37]? = some (.bool v.o) by rw [hRV]; exact rvc_37 hv _ _)
 have CC : Hid (∀ (M : List At) (w : World), St w0 X (M ++ L) w → Calls Tryz.prog 31 #[.slice B n cb, .int .u8 2, .int .i64 72] w fun e w' => e = .returned (.int .i64 (E : Nat)) ∧ St w0 X (M ++ L) w') := Lib.hid (fun M w hs => by
  rw [hEE]; exact rcheck_st (sz := 72) (np := 2) hs 2#8 hn (hB.app M) (fun _ => hc) (by omega) (by omega) rfl)
 rw [← hEE] at hE
 by_cases h0 : E = 0
 ·have ho : v.o = false := by rcases hE with h | h; exact absurd h0 h; exact h
  rw [show checkS v b = (v, [], 8) by unfold checkS; rw [← hEE, if_neg (by simp [h0]), if_pos ho], ← hRV]
  rw [ho] at R37
  rw [h0] at CC
  clear hE ho h0 hEE hRV hZ hB hn
  go_enter Tryz.func16, Tryz.ntmps16
  go_wp2_with (first | ((with_reducible refine Se.isL (o := ⟨some 4, _, _, _, _, _⟩) ?_); (refine Se.toL rfl (Se.al (o := ⟨some 4, _, _, _, _, _⟩) hs rfl (aI.out) ?_); clear hs; rintro w g4 - hs)) | ((with_reducible refine Se.isL (o := ⟨some 16, _, _, _, _, _⟩) ?_); (refine Se.toL rfl (Se.ld (o := ⟨some 16, _, _, _, _, _⟩) hs rfl rfl (Cell.blk 1 rfl R37.out) (by kernel_rfl) ?_))) | ((with_reducible refine Se.isL (o := ⟨some 18, _, _, _, _, _⟩) ?_); (refine Se.toL rfl (Se.ldw (o := ⟨some 18, _, _, _, _, _⟩) hs rfl rfl ((Reads.blk 1 rfl)) ((by rw [RL.out]; kernel_rfl)) (by kernel_rfl) ?_))) | ((with_reducible refine Se.isL (o := ⟨none, _, _, _, _, _⟩) ?_); (refine Se.toL rfl (Se.sow 0 hs rfl rfl rfl rfl (RO.out) ((by rw [RL.out]; kernel_rfl)) ((by rw [RL.out, ZL.out])) ?_); clear hs; intro w hs; try simp only [List.cons_append, List.nil_append, List.set_cons_zero] at hs)) | ((first | with_reducible refine Se.ab hs ?_ | with_reducible refine Se.abc hs ?_); clear hs; (first | (generalize w.heap.size = g2; intro w hs))) | (go_at_call 31; refine Calls.mono (CC.out [_, _] _ hs) ?_; clear hs; rintro e w ⟨rfl, hs⟩))
  refine Se.ret hs [.agg RV.toArray, .slice none 0 0, .int .i64 8] rfl ⟨Se.resRow rfl (Reads.blk 0 rfl) (by kernel_rfl) (by rw [RL.out]; kernel_rfl), rfl, rfl, trivial⟩ (by simp) rfl ?_
  exact ⟨none, none, 0, rfl, hs.drop.drop.nil_own 1 none⟩
 ·have hne : ((E : Int) != 0) = true := int_ne h0
  rw [show checkS v b = (v, [], E) by unfold checkS; rw [← hEE, if_pos h0], ← hRV]
  clear hE h0 hEE hRV hZ hB hn
  go_enter Tryz.func16, Tryz.ntmps16
  go_wp2_with (first | ((with_reducible refine Se.isL (o := ⟨some 4, _, _, _, _, _⟩) ?_); (refine Se.toL rfl (Se.al (o := ⟨some 4, _, _, _, _, _⟩) hs rfl (aI.out) ?_); clear hs; rintro w g4 - hs)) | ((with_reducible refine Se.isL (o := ⟨some 13, _, _, _, _, _⟩) ?_); (refine Se.toL rfl (Se.ldw (o := ⟨some 13, _, _, _, _, _⟩) hs rfl rfl ((Reads.blk 1 rfl)) ((by rw [RL.out]; kernel_rfl)) (by kernel_rfl) ?_))) | ((with_reducible refine Se.isL (o := ⟨none, _, _, _, _, _⟩) ?_); (refine Se.toL rfl (Se.sow 0 hs rfl rfl rfl rfl (RO.out) ((by rw [RL.out]; kernel_rfl)) ((by rw [RL.out, ZL.out])) ?_); clear hs; intro w hs; try simp only [List.cons_append, List.nil_append, List.set_cons_zero] at hs)) | ((first | with_reducible refine Se.ab hs ?_ | with_reducible refine Se.abc hs ?_); clear hs; (first | (generalize w.heap.size = g2; intro w hs))) | (go_at_call 31; refine Calls.mono (CC.out [_, _] _ hs) ?_; clear hs; rintro e w ⟨rfl, hs⟩))
  refine Se.ret hs [.agg RV.toArray, .slice none 0 0, .int .i64 E] rfl ⟨Se.resRow rfl (Reads.blk 0 rfl) (by kernel_rfl) (by rw [RL.out]; kernel_rfl), rfl, rfl, trivial⟩ (by simp) rfl ?_
  exact ⟨none, none, 0, rfl, hs.drop.drop.nil_own 1 none⟩
end Au
end Go.Proofs.YtakdoijemopejaaGreat
/- Layer 38: the reference's prover, its cells. No condition but Go's own limits. -/
namespace Go.Proofs.YtakdoijemopejaaGreat
open Go Go.RowKit
namespace Au
open Se (St At Reads Cell)
open Li (v8 v8_one Rd Blk Fr)
open Bv (n8 n16 n32 n64)
/-- The reference's prover, its cells: the party, what was sent (a string), the nonce, whether it waits, whether it is done. -/
def rpc (p : Pn) (A : Option Addr) (c : Nat) (s : ByteArray) (n : Bs) (o d : Bool) : List Value := pcl p A c ++ [.string s] ++ n.map v8 ++ [.bool o, .bool d]
theorem rpc_len {n : Bs} (h : n.length = 32) (p : Pn) (A : Option Addr) (c : Nat) (s : ByteArray) (o d : Bool) : (rpc p A c s n o d).length = 38 := by simp [rpc, pcl, h]
theorem rpc_one (p : Pn) (A : Option Addr) (c : Nat) (s : ByteArray) (n : Bs) (o d : Bool) : ∀ x ∈ rpc p A c s n o d, x.oneCell' = true := by
 intro x hx
 simp only [rpc, List.mem_append, List.mem_cons, List.not_mem_nil, or_false] at hx
 rcases hx with ((h | h) | h) | h
 ·exact pcl_one _ _ _ x h
 ·rcases h with rfl; rfl
 ·exact v8_one _ x h
 ·rcases h with rfl | rfl <;> rfl
theorem rpI : (Tryz.prog.info? 46).bind (fun i => i.zero.map (·.cells.toList)) = some (rpc ⟨[], ⟨#[]⟩, ⟨#[]⟩⟩ none 0 ⟨#[]⟩ z32 false false) := by kernel_rfl
theorem rpc_setS (p : Pn) (A : Option Addr) (c : Nat) (s t : ByteArray) (n : Bs) (o d : Bool) : (rpc p A c s n o d).set 3 (.string t) = rpc p A c t n o d := by simp [rpc, pcl]
theorem rpc_setO {n : Bs} (h : n.length = 32) (p : Pn) (A : Option Addr) (c : Nat) (s : ByteArray) (o d b : Bool) : (rpc p A c s n o d).set 36 (.bool b) = rpc p A c s n b d := by
 unfold rpc
 rw [List.set_append_right _ _ (by simp [pcl, h])]
 simp [pcl, h]
theorem rpc_setD {n : Bs} (h : n.length = 32) (p : Pn) (A : Option Addr) (c : Nat) (s : ByteArray) (o d b : Bool) : (rpc p A c s n o d).set 37 (.bool b) = rpc p A c s n o b := by
 unfold rpc
 rw [List.set_append_right _ _ (by simp [pcl, h])]
 simp [pcl, h]
end Au
end Go.Proofs.YtakdoijemopejaaGreat
/- Opening slices of steps that layer 38's laws take. No condition. -/
namespace Go.Proofs.YtakdoijemopejaaGreat
open Go Go.ChangeShapes Go.WideShapes Go.ChangeAt Go.RowKit
namespace Lift
theorem weightsAll_mem {H : Type} {P : Program} {e : TypeId} : ∀ {ds : List (DataW H)} {d : DataW H}, d ∈ ds → ∀ n ∈ d.weights P e, n ∈ DataW.weightsAll P e ds
 | d0 :: ds, d, h, n, hn => by
  simp only [DataW.weightsAll, List.mem_append]
  rcases List.mem_cons.1 h with rfl | h
  ·exact .inl hn
  ·exact .inr (weightsAll_mem h n hn)
 | [], _, h, _, _ => by cases h
/-- A slice of rows of one size, each of them opened. -/
theorem open_rows {H : Type} {enc : TypeId × Value → H} {P : Program} {W : World} {r : Reach} {base : Nat} {t e : TypeId} {v : Value} {d : DataW H} {p : List MemPlace} {z : Nat} {α : Type} (a0 : α) (Q : List Value → α → Prop) (ht : P.underlying t = some (.slice e)) (hc : P.cellsOf e = z) (h0 : 0 < z)
  {Bd : Nat} (hQ : ∀ fuel cs x, DataW.trod enc P W 0 (fun _ => true) true fuel e cs = some x → (∀ k ∈ x.1.weights P e, k ≤ Bd) → ∃ a, Q cs a) (hB : ∀ k ∈ d.weights P t, k ≤ Bd) (hv : Value.okWide P W r base t v)
  (h : DataW.Trod enc P W 0 (fun _ => true) true t v d p) : ∃ A m c, ∃ (l : List (List Value)) (xs : List α), v = .slice A m c ∧ m = xs.length ∧ m * P.bytesOf e ≤ Bd ∧ l.length = xs.length ∧ (∀ x ∈ l, x.length = z) ∧ Li.Rd W A l.flatten ∧ ∀ (i : Nat) (PC : List Value) (a : α), l[i]? = some PC → xs[i]? = some a → Q PC a := by
 obtain ⟨A, m, c, rfl⟩ := okWide_slice ht hv
 obtain ⟨fuel, hf⟩ := h
 rcases Go.Deep.open_slice ht hf with ⟨hcs, _⟩ | ⟨a, len, cap, M, n', D, Pl, hcs, _, hl, hm, hM, hx, hall⟩
 ·simp [Value.cells] at hcs
  obtain ⟨rfl, rfl, rfl⟩ := hcs
  exact ⟨none, 0, 0, [], [], rfl, rfl, by simp, rfl, by simp, .inl rfl, by simp⟩
 ·simp [Value.cells] at hcs
  obtain ⟨rfl, rfl, rfl⟩ := hcs
  simp only [if_true] at hM
  have hd : d = .slice ((List.range m).map D) ((List.range (M - m)).map fun j => D (m + j)) := (Prod.mk.inj hx).1
  have hw : DataW.weights P t d = (((List.range m).map D).length + ((List.range (M - m)).map fun j => D (m + j)).length) * P.bytesOf e :: (DataW.weightsAll P e ((List.range m).map D) ++ DataW.weightsAll P e ((List.range (M - m)).map fun j => D (m + j))) := by
   rw [hd]; simp only [DataW.weights, ht]
  have hmb : m * P.bytesOf e ≤ Bd := by
   have h1 := hB _ (by rw [hw]; exact List.mem_cons_self)
   simp only [List.length_map, List.length_range] at h1
   exact Nat.le_trans (Nat.mul_le_mul_right _ (by omega)) h1
  have hDB : ∀ i, i < m → ∀ k ∈ (D i).weights P e, k ≤ Bd := fun i hi k hk => by
   refine hB k ?_
   rw [hw]
   exact List.mem_cons_of_mem _ (List.mem_append.2 (.inl (weightsAll_mem (List.mem_map.2 ⟨i, List.mem_range.2 hi, rfl⟩) k hk)))
  haveI : Inhabited (List Value × α) := ⟨([], a0)⟩
  obtain ⟨C, hC⟩ := Go.Deep.choose_lt (α := List Value × α) (p := fun i q => W.cells? 0 (a.add (i * P.cellsOf e)) (P.cellsOf e) = some q.1 ∧ Q q.1 q.2) (n := m) (fun i hi => by
   obtain ⟨cs, h1, h2⟩ := hall i (by omega)
   obtain ⟨b, hb⟩ := hQ _ _ _ h2 (hDB i hi)
   exact ⟨(cs, b), h1, hb⟩)
  have hlen : ∀ x ∈ (List.range m).map (fun i => (C i).1), x.length = z := fun x hx => by
   obtain ⟨i, hi, rfl⟩ := List.mem_map.1 hx
   have := (World.cells?_some (hC i (List.mem_range.1 hi)).1).2.1
   rwa [hc] at this
  refine ⟨some a, m, c, (List.range m).map (fun i => (C i).1), (List.range m).map (fun i => (C i).2), rfl, by simp, hmb, by simp, hlen, ?_, ?_⟩
  ·by_cases hz : m = 0
   ·subst hz; exact .inl (by simp)
   ·obtain ⟨b, off, spot⟩ := a
    have cell : ∀ i, i < m → ∀ j, j < z → W.cell? (Addr.add ⟨b, off, spot⟩ (i * z + j)) = ((C i).1)[j]? := fun i hi j hj => by
     have h1 := (World.cells?_some (hC i hi).1).2.2 j (by rw [hc]; exact hj)
     rw [hc] at h1
     have e : (Addr.add ⟨b, off, spot⟩ (i * z)).add j = Addr.add ⟨b, off, spot⟩ (i * z + j) := by
      generalize i * z = u
      by_cases hu : u = 0 <;> by_cases hv : j = 0 <;> simp [Addr.add, hu, hv, Nat.add_assoc]
     rwa [e] at h1
    have hspot : spot = none := by
     have h1 := cell 0 (by omega) 0 h0
     have h2 := hlen (C 0).1 (List.mem_map.2 ⟨0, List.mem_range.2 (by omega), rfl⟩)
     rw [List.getElem?_eq_getElem (by omega)] at h1
     simpa [Addr.add] using World.cell?_spot h1
    subst hspot
    refine .inr ⟨b, off, rfl, fun q hq => ?_⟩
    have hfl : ((List.range m).map (fun i => (C i).1)).flatten.length = m * z := by
     have := flatten_len _ hlen
     simpa using this
    rw [hfl] at hq
    have hi : q / z < m := Nat.div_lt_of_lt_mul (by rw [Nat.mul_comm]; exact hq)
    have hj : q % z < z := Nat.mod_lt _ h0
    have hq2 : q / z * z + q % z = q := by rw [Nat.mul_comm]; exact Nat.div_add_mod _ _
    have h1 := cell _ hi _ hj
    rw [hq2, Addr.add_lit] at h1
    rw [h1]
    have h2 := flatten_get ((List.range m).map (fun i => (C i).1)) (q / z) (q % z) (by simpa using hi) hj hlen
    rw [hq2] at h2
    rw [h2]
    simp
  ·intro i PC b h1 h2
   by_cases hi : i < m
   ·simp only [List.getElem?_map, List.getElem?_range hi, Option.map_some, Option.some.injEq] at h1 h2
    subst h1 h2
    exact (hC i hi).2
   ·simp only [List.getElem?_map, List.getElem?_eq_none (l := List.range m) (by simpa using hi), Option.map_none] at h1
    cases h1
end Lift
namespace Au
open Se (St At Reads Cell)
open Li (v8 v8_one Rd Blk Fr)
open Bv (n8 n16 n32 n64)
/-- A step. -/
structure Ac where
 k : Int
 N : Bs
 s : BitVec 32
 q : BitVec 16
 both : Bool
 b : Bs
def ac (a : Ac) (B : Option Addr) (c : Nat) : List Value := acl a.k a.N a.s a.q B a.b.length c a.both
/-- Rows of steps. -/
def AS (L : List At) (R : List (List Value)) (xs : List Ac) : Prop := R.length = xs.length ∧ (∀ x ∈ R, x.length = 37) ∧ ∀ (i : Nat) (PC : List Value) (p : Ac), R[i]? = some PC → xs[i]? = some p → ∃ B c, PC = ac p B c ∧ p.N.length = 32 ∧ Reads L B (p.b.map v8)
theorem AS.mono {L L' : List At} {R : List (List Value)} {ps : List Ac} (h : AS L R ps) (hm : ∀ a ∈ L, a ∈ L') : AS L' R ps := ⟨h.1, h.2.1, fun i PC p h1 h2 => by
 obtain ⟨B, c, h3, h5, h4⟩ := h.2.2 i PC p h1 h2
 exact ⟨B, c, h3, h5, h4.mono hm⟩⟩
theorem flat_row37 : ∀ (R : List (List Value)) (i : Nat) (x : List Value), (∀ x ∈ R, x.length = 37) → R[i]? = some x → (R.flatten.drop (i * 37)).take 37 = x
 | [], i, x, _, h => by simp at h
 | r :: R, 0, x, hl, h => by
  simp only [List.getElem?_cons_zero, Option.some.injEq] at h
  subst h
  have := hl r List.mem_cons_self
  rw [Nat.zero_mul, List.drop_zero, List.flatten_cons, List.take_append_of_le_length (by omega), List.take_of_length_le (by omega)]
 | r :: R, i + 1, x, hl, h => by
  have h1 := hl r List.mem_cons_self
  rw [List.getElem?_cons_succ] at h
  rw [List.flatten_cons, show (i + 1) * 37 = r.length + i * 37 by omega, ← List.drop_drop, List.drop_left]
  exact flat_row37 R i x (fun y hy => hl y (List.mem_cons_of_mem _ hy)) h
theorem AS.row {L : List At} {R : List (List Value)} {ps : List Ac} (h : AS L R ps) {i : Nat} (hi : i < ps.length) : ∃ PC B c, PC = ac ps[i] B c ∧ ps[i].N.length = 32 ∧ Reads L B (ps[i].b.map v8) ∧ ∀ g o, Reads L (some ⟨g, o, none⟩) R.flatten → Reads L (some ⟨g, o + i * 37, none⟩) PC := by
 have hR : i < R.length := by rw [h.1]; exact hi
 obtain ⟨B, c, h3, h5, h4⟩ := h.2.2 i R[i] ps[i] (List.getElem?_eq_getElem hR) (List.getElem?_eq_getElem hi)
 refine ⟨R[i], B, c, h3, h5, h4, fun g o hr => ?_⟩
 have h6 := (hr.at (i * 37)).take 37
 rwa [flat_row37 R i _ h.2.1 (List.getElem?_eq_getElem hR)] at h6
theorem AS.ne {L : List At} {R : List (List Value)} {ps : List Ac} (h : AS L R ps) {i : Nat} (hi : i < ps.length) : R.flatten ≠ [] := by
 intro he
 have hR : i < R.length := by rw [h.1]; exact hi
 have h1 := flat_row37 R i _ h.2.1 (List.getElem?_eq_getElem hR)
 have h2 := h.2.1 R[i] (List.getElem_mem hR)
 rw [he] at h1
 simp only [List.drop_nil, List.take_nil] at h1
 rw [← h1] at h2
 simp at h2
def rds (l : List (Option Addr × List Value)) : List At := l.map fun q => .rd q.1 q.2
section
variable {H : Type} {enc : TypeId × Value → H} {W : World} {r : Reach} {base : Nat} {v : Value} {d : DataW H} {p : List MemPlace}
set_option maxRecDepth 100000 in
set_option maxHeartbeats 4000000 in
theorem open_acts (hv : Value.okWide Tryz.prog W r base 25 v) (h : DataW.Trod enc Tryz.prog W 0 (fun _ => true) true 25 v d p) {Bd : Nat} (hB : ∀ k ∈ d.weights Tryz.prog 25, k ≤ Bd) :
  ∃ A n c, ∃ (R : List (List Value)) (qs : List (Ac × Option Addr × Nat)), v = .slice A n c ∧ n = (qs.map (·.1)).length ∧ Rd W A R.flatten ∧ (∀ q ∈ qs, Rd W q.2.1 (q.1.b.map v8)) ∧ AS (rds (qs.map fun q => (q.2.1, q.1.b.map v8))) R (qs.map (·.1)) := by
 obtain ⟨A, m, c, l, xs, rfl, hm, hmb, hl, h5, hr, hq⟩ := Lift.open_rows (z := 37) (⟨0, [], 0#32, 0#16, false, []⟩, none, 0) (fun cs (q : Ac × Option Addr × Nat) => cs = ac q.1 q.2.1 q.2.2 ∧ q.1.N.length = 32 ∧ Rd W q.2.1 (q.1.b.map v8)) Tryz.underlying25 (by kernel_rfl) (by decide) (fun fuel cs x hf hB => by
  obtain ⟨k, N, s, q, B, n, c, both, b, rfl, h1, rfl, h3⟩ := act_cells hf
  exact ⟨(⟨k, N, s, q, both, b⟩, B, c), rfl, h1, h3⟩) hB hv h
 have hz : ∀ q ∈ xs, q.1.N.length = 32 ∧ Rd W q.2.1 (q.1.b.map v8) := fun q hq' => by
  obtain ⟨i, hi, rfl⟩ := List.mem_iff_getElem.1 hq'
  have := hq i l[i] xs[i] (List.getElem?_eq_getElem (by omega)) (List.getElem?_eq_getElem hi)
  exact this.2
 refine ⟨A, m, c, l, xs, rfl, by rw [List.length_map]; exact hm, hr, fun q h => (hz q h).2, by rw [List.length_map]; exact hl, h5, fun i PC p h1 h2 => ?_⟩
 rw [List.getElem?_map] at h2
 cases hx : xs[i]? with
 | none => rw [hx] at h2; cases h2
 | some q =>
  rw [hx] at h2
  cases h2
  obtain ⟨e1, e2, e3⟩ := hq i PC q h1 hx
  refine ⟨q.2.1, q.2.2, e1, e2, Reads.rdm (List.mem_map.2 ⟨(q.2.1, q.1.b.map v8), List.mem_map.2 ⟨q, List.mem_of_getElem? hx, rfl⟩, rfl⟩)⟩
end
theorem rds_own : ∀ (l : List (Option Addr × List Value)), Se.ownedL (rds l) = []
 | [] => rfl
 | q :: l => by
  have h := rds_own l
  show At.owned (.rd q.1 q.2) ++ Se.ownedL (rds l) = []
  rw [h]
  rfl
/-- The world at a call: what is read there. -/
theorem start_rds {W : World} {l : List (Option Addr × List Value)} (h : ∀ q ∈ l, Rd W q.1 q.2) : St W [] (rds l) W := by
 refine St.start W ?_ ?_
 ·intro a ha
  obtain ⟨q, hq, rfl⟩ := List.mem_map.1 ha
  exact h q hq
 ·exact rds_own l
theorem rds_mem {l : List (Option Addr × List Value)} {q : Option Addr × List Value} (h : q ∈ l) : Reads (rds l) q.1 q.2 := Reads.rdm (List.mem_map.2 ⟨q, h, rfl⟩)
theorem rds_sub {l l' : List (Option Addr × List Value)} (h : ∀ q ∈ l, q ∈ l') : ∀ a ∈ rds l, a ∈ rds l' := fun a ha => by
 obtain ⟨q, hq, rfl⟩ := List.mem_map.1 ha
 exact List.mem_map.2 ⟨q, h q hq, rfl⟩
theorem AS.rds {l l' : List (Option Addr × List Value)} {R : List (List Value)} {xs : List Ac} (h : AS (Au.rds l) R xs) (hm : ∀ q ∈ l, q ∈ l') : AS (Au.rds l') R xs := h.mono (rds_sub hm)
end Au
end Go.Proofs.YtakdoijemopejaaGreat

/- Layer 45: the reference's New. -/
import Derived.Test.YtplhelhijjmlaaaPathNew
set_option linter.unusedSimpArgs false
set_option linter.unusedVariables false
namespace Go.Proofs.Ytplhelhijjmlaaa
open Go Go.RowKit
namespace Pa
open Se (St At Reads Cell)
variable {w0 w : World} {X : List Nat} {L : List At}
def rone : PS := ⟨true, 0, 0 :: List.replicate 128 1⟩
def rfil (k : Nat) : List Value := .bool true :: .int .i64 0 :: .int .i64 0 :: (List.replicate k (Value.int .i64 1) ++ List.replicate (128 - k) (Value.int .i64 0))
theorem rfil_len {k : Nat} (h : k ≤ 128) : (rfil k).length = 131 := by simp [rfil]; omega
theorem rfil_set {k : Nat} (h : k < 128) : (rfil k).set (2 + (k + 1)) (.int .i64 1) = rfil (k + 1) := by
  rw [show 2 + (k + 1) = k + 3 by omega]
  simp only [rfil, List.set_cons_succ]
  rw [List.set_append_right _ _ (by simp), List.length_replicate, Nat.sub_self]
  obtain ⟨m, hm⟩ : ∃ m, 128 - k = m + 1 := ⟨127 - k, by omega⟩
  rw [hm, show 128 - (k + 1) = m by omega, List.replicate_succ, List.set_cons_zero, List.replicate_succ', List.append_assoc]
  rfl
theorem rfil_end : rfil 128 = cS rone := by simp [rfil, cS, rone]
theorem build_rfil (w : World) : (Instr.build 70 #[(0, .bool true)]).run Try.prog w = .ok (.agg (rfil 0).toArray) w := by kernel_rfl
theorem build_rp (t : Int) (w : World) : (Instr.build 59 #[(0, .int .i64 t)]).run Try.prog w = .ok (.agg #[.int .i64 t, .slice none 0 0]) w := by kernel_rfl
theorem build_rp0 (w : World) : (Instr.build 59 #[]).run Try.prog w = .ok (.agg #[.int .i64 0, .slice none 0 0]) w := by kernel_rfl
theorem cells_snoc (n : Nat) (x : PS) : cells (List.replicate n x) ++ cS x = cells (List.replicate (n + 1) x) := by
  rw [List.replicate_succ']; simp [cells]
theorem newP_eq (n t : Int) : newP n t = if 1 ≤ n ∧ n ≤ 32 ∧ 1 ≤ t ∧ t ≤ 256 then some ⟨t, List.replicate n.toNat rone⟩ else none := rfl
set_option maxRecDepth 100000 in
set_option maxHeartbeats 4000000 in
theorem rnew_st (hs : St w0 X L w) (n t : Int) :
    Calls Try.prog 25 #[.int .i64 n, .int .i64 t] w fun e w' =>
      match newP n t with
      | none => e = .returned (.tuple #[.agg #[.int .i64 0, .slice none 0 0], .int .i64 2]) ∧ St w0 X L w'
      | some p => ∃ A c, e = .returned (.tuple #[rv p A c, .int .i64 0]) ∧ St w0 X (.rd A (cells p.l) :: L) w' := by
  have key : (1 ≤ n ∧ n ≤ 32 ∧ 1 ≤ t ∧ t ≤ 256) ∨ (¬ (1 ≤ n ∧ n ≤ 32 ∧ 1 ≤ t ∧ t ≤ 256) ∧ (n < 1 ∨ (decide (n < 1) = false ∧ 32 < n) ∨ (decide (n < 1) = false ∧ decide (32 < n) = false ∧ t < 1) ∨ (decide (n < 1) = false ∧ decide (32 < n) = false ∧ decide (t < 1) = false ∧ 256 < t))) := by
    simp only [decide_eq_false_iff_not]; omega
  rcases key with hc | ⟨hc, hk⟩
  · obtain ⟨k, rfl⟩ : ∃ k : Nat, n = k := ⟨n.toNat, by omega⟩
    have hk1 : 1 ≤ k := by omega
    have hk2 : k ≤ 32 := by omega
    have hd1 : decide ((k : Int) < 1) = false := by simp; omega
    have hd2 : decide (32 < (k : Int)) = false := by simp; omega
    have hd3 : decide (t < 1) = false := by simp; omega
    have hd4 : decide (256 < t) = false := by simp; omega
    have HN := Lib.hid (show newP k t = some ⟨t, List.replicate k rone⟩ by rw [newP_eq, if_pos hc, Int.toNat_natCast])
    obtain ⟨z, hz, hz2⟩ := zRL
    have Z := Lib.hid hz
    have ZL := Lib.hid hz2
    obtain ⟨z', hz1, hz3⟩ := iRP
    have Z1 := Lib.hid hz1
    have Z3 := Lib.hid hz3
    have FO := Lib.hid (show ∀ v ∈ rfil 0, v.oneCell' = true by intro v hv; simp [rfil] at hv; rcases hv with rfl | rfl | ⟨_, rfl⟩ <;> rfl)
    have F0 := Lib.hid (rfil_len (k := 0) (by omega))
    obtain ⟨xs, hxs⟩ : ∃ xs, xs = cS rone := ⟨_, rfl⟩
    have XL := Lib.hid (show xs.length = 131 by rw [hxs]; rfl)
    have XO := Lib.hid (show ∀ v ∈ xs, v.oneCell' = true by rw [hxs]; exact cS_one _)
    have XC := Lib.hid (fun i => show cells (List.replicate i rone) ++ xs = cells (List.replicate (i + 1) rone) by rw [hxs]; exact cells_snoc _ _)
    have XF := Lib.hid (show rfil 128 = xs by rw [hxs]; exact rfil_end)
    clear hc hz hz2 hz1 hz3 hxs
    rw [HN.out]
    go_enter Try.func25, Try.ntmps25
    go_upto_region 4 with (first | ((with_reducible refine Se.isL (o := ⟨some 4, _, _, _, _, _⟩) ?_); (refine Se.toL rfl (Se.al (o := ⟨some 4, _, _, _, _, _⟩) hs rfl (rfl) ?_); clear hs; rintro w g4 - hs)) | ((with_reducible refine Se.isL (o := ⟨some 26, _, _, _, _, _⟩) ?_); (refine Se.toL rfl (Se.bd (o := ⟨some 26, _, _, _, _, _⟩) rfl rfl ((build_rp t _)) ?_))) | ((with_reducible refine Se.isL (o := ⟨some 6, _, _, _, _, _⟩) ?_); (refine Se.toL rfl (Se.al (o := ⟨some 6, _, _, _, _, _⟩) hs rfl (rfl) ?_); clear hs; rintro w g6 - hs)) | ((with_reducible refine Se.isL (o := ⟨none, Op.store 59 _ _, _, _, _, _⟩) ?_); (refine Se.toL rfl (Se.sow 0 hs rfl rfl rfl rfl ((by simp [Value.oneCell'])) ((by kernel_rfl)) (rfl) ?_); clear hs; intro w hs; try simp only [List.set_cons_zero] at hs)))
    replace hs := hs.nil_own 131 none
    clear hd1 hd2 hd3 hd4
    go_wp2_with fail
    go_loopg [7] k (fun gh s7 wr => ∃ (i : Nat) (r : Option Nat) (A : Option Addr) (c : Nat), gh = k - i ∧ i ≤ k ∧ s7 = .int .i64 i ∧ St w0 X (.own 131 r A i c (cells (List.replicate i rone)) :: .blk g6 59 [.int .i64 t, .slice A i c] :: .blk g4 59 [.int .i64 0, .slice none 0 0] :: L) wr)
    case atStart => exact ⟨0, none, none, 0, rfl, by omega, rfl, hs⟩
    case round =>
      clear hs
      rename World => w
      obtain ⟨i, r, A, c, rfl, hi, rfl, hs⟩ := hrel
      by_cases hlt : i < k
      · have hlt' : (i : Int) < (k : Int) := by omega
        go_upto_region 9 with (first | ((with_reducible refine Se.isL (o := ⟨some 32, _, _, _, _, _⟩) ?_); (refine Se.toL rfl (Se.bd (o := ⟨some 32, _, _, _, _, _⟩) rfl rfl ((build_rfil _)) ?_))) | ((with_reducible refine Se.isL (o := ⟨some 8, _, _, _, _, _⟩) ?_); (refine Se.toL rfl (Se.al (o := ⟨some 8, _, _, _, _, _⟩) hs rfl (Z.out) ?_); clear hs; rintro w g8 - hs)) | ((with_reducible refine Se.isL (o := ⟨none, Op.store 70 _ _, _, _, _, _⟩) ?_); (refine Se.toL rfl (Se.sow 0 hs rfl rfl rfl rfl (FO.out) ((by rw [F0.out]; kernel_rfl)) ((by rw [ZL.out, F0.out])) ?_); clear hs; intro w hs; try simp only [List.set_cons_zero] at hs)))
        go_loopg [9] 128 (fun gh s9 wr => ∃ m : Nat, gh = 128 - m ∧ m ≤ 128 ∧ s9 = .int .i64 ((m : Int) + 1) ∧ St w0 X (.blk g8 70 (rfil m) :: .own 131 r A i c (cells (List.replicate i rone)) :: .blk g6 59 [.int .i64 t, .slice A i c] :: .blk g4 59 [.int .i64 0, .slice none 0 0] :: L) wr)
        case atStart => exact ⟨0, rfl, by omega, rfl, hs⟩
        case round =>
          clear hs
          rename World => w
          obtain ⟨m, rfl, hm, rfl, hs⟩ := hrel
          by_cases hlm : m < 128
          · have hlm' : (m : Int) + 1 ≤ 128 := by omega
            have hm0 : ((m : Int) + 1).toNat = m + 1 := by omega
            have FL := Lib.hid (rfil_len hm)
            have FS := Lib.hid (rfil_set hlm)
            go_wp2_with (first | ((with_reducible refine Se.isL (o := ⟨none, Op.store 3 _ _, _, _, _, _⟩) ?_); ((first | refine Se.toL rfl (Se.soq 0 (v := .int _ _) hs rfl rfl rfl rfl rfl (by kernel_rfl) ((by rw [FL.out]; omega)) (FS.out) ?_) | refine Se.toL rfl (Se.soq 0 (v := .bool _) hs rfl rfl rfl rfl rfl (by kernel_rfl) ((by rw [FL.out]; omega)) (FS.out) ?_) | refine Se.toL rfl (Se.soq 0 (v := .slice _ _ _) hs rfl rfl rfl rfl rfl (by kernel_rfl) ((by rw [FL.out]; omega)) (FS.out) ?_) | refine Se.toL rfl (Se.soq 0 (v := .pointer _) hs rfl rfl rfl rfl rfl (by kernel_rfl) ((by rw [FL.out]; omega)) (FS.out) ?_) | refine Se.toL rfl (Se.soq 0 (v := .string _) hs rfl rfl rfl rfl rfl (by kernel_rfl) ((by rw [FL.out]; omega)) (FS.out) ?_) | refine Se.toL rfl (Se.soq 0 (v := .map _) hs rfl rfl rfl rfl rfl (by kernel_rfl) ((by rw [FL.out]; omega)) (FS.out) ?_) | refine Se.toL rfl (Se.soq 0 (v := .func _ _ _) hs rfl rfl rfl rfl rfl (by kernel_rfl) ((by rw [FL.out]; omega)) (FS.out) ?_) | refine Se.toL rfl (Se.soq 0 (v := .nilFunc) hs rfl rfl rfl rfl rfl (by kernel_rfl) ((by rw [FL.out]; omega)) (FS.out) ?_)); clear hs; intro w hs; try simp only [List.set_cons_zero] at hs)))
            go_roundg (128 - (m + 1))
            case measure => omega
            case rel => exact ⟨m + 1, rfl, by omega, by go_num, hs⟩
          · obtain rfl : m = 128 := by omega
            rw [XF.out] at hs
            go_wp2_with (first | ((with_reducible refine Se.isL (o := ⟨some 41, _, _, _, _, _⟩) ?_); (refine Se.toL rfl (Se.ld (o := ⟨some 41, _, _, _, _, _⟩) hs rfl rfl (Cell.blk 2 rfl rfl) (by kernel_rfl) ?_))) | ((with_reducible refine Se.isL (o := ⟨some 42, _, _, _, _, _⟩) ?_); (refine Se.toL rfl (Se.ldw (o := ⟨some 42, _, _, _, _, _⟩) hs rfl rfl ((Reads.blk 0 rfl)) ((by rw [XL.out]; kernel_rfl)) (by kernel_rfl) ?_))) | ((with_reducible refine Se.isL (o := ⟨some 43, _, _, _, _, _⟩) ?_); (refine Se.toL rfl (Se.bs1 (o := ⟨some 43, _, _, _, _, _⟩) hs rfl Try.underlying57 Z1.out (by decide) (by decide) rfl (XL.out) ?_); clear hs; rintro w g43 - hs)) | ((with_reducible refine Se.isL (o := ⟨some 44, _, _, _, _, _⟩) ?_); (refine Se.toL rfl (Se.ap (o := ⟨some 44, _, _, _, _, _⟩) 2 hs rfl rfl rfl rfl ((Reads.blk 0 rfl)) Try.underlying57 Z1.out (Z3.out) (by decide) (XO.out) (XL.out) ((by omega)) ((by omega)) ?_); clear hs; rintro w r' A' c' hs; try simp only [List.set_cons_zero, List.set_cons_succ] at hs; try simp only [Nat.zero_add, List.nil_append] at hs; try simp only [Nat.zero_add])) | ((with_reducible refine Se.isL (o := ⟨none, Op.store 57 _ _, _, _, _, _⟩) ?_); ((first | refine Se.toL rfl (Se.so 3 (v := .int _ _) hs rfl rfl rfl rfl rfl (by kernel_rfl) (by simp) ?_) | refine Se.toL rfl (Se.so 3 (v := .bool _) hs rfl rfl rfl rfl rfl (by kernel_rfl) (by simp) ?_) | refine Se.toL rfl (Se.so 3 (v := .slice _ _ _) hs rfl rfl rfl rfl rfl (by kernel_rfl) (by simp) ?_) | refine Se.toL rfl (Se.so 3 (v := .pointer _) hs rfl rfl rfl rfl rfl (by kernel_rfl) (by simp) ?_) | refine Se.toL rfl (Se.so 3 (v := .string _) hs rfl rfl rfl rfl rfl (by kernel_rfl) (by simp) ?_) | refine Se.toL rfl (Se.so 3 (v := .map _) hs rfl rfl rfl rfl rfl (by kernel_rfl) (by simp) ?_) | refine Se.toL rfl (Se.so 3 (v := .func _ _ _) hs rfl rfl rfl rfl rfl (by kernel_rfl) (by simp) ?_) | refine Se.toL rfl (Se.so 3 (v := .nilFunc) hs rfl rfl rfl rfl rfl (by kernel_rfl) (by simp) ?_)); clear hs; intro w hs; try simp only [List.set_cons_zero, List.set_cons_succ] at hs)))
            rw [XC.out i] at hs
            go_roundg (k - (i + 1))
            case measure => omega
            case rel => exact ⟨i + 1, r', A', c', rfl, by omega, by go_num, hs.drop.drop⟩
      · obtain rfl : i = k := by omega
        go_wp2_with (first | ((with_reducible refine Se.isL (o := ⟨some 46, _, _, _, _, _⟩) ?_); (refine Se.toL rfl (Se.ldw (o := ⟨some 46, _, _, _, _, _⟩) hs rfl rfl ((Reads.blk 1 rfl)) ((by kernel_rfl)) (by kernel_rfl) ?_))) | ((with_reducible refine Se.isL (o := ⟨none, Op.store 59 _ _, _, _, _, _⟩) ?_); (refine Se.toL rfl (Se.sow 2 hs rfl rfl rfl rfl ((by simp [Value.oneCell'])) ((by kernel_rfl)) (rfl) ?_); clear hs; intro w hs; try simp only [List.set_cons_zero, List.set_cons_succ] at hs)))
        refine Se.ret hs [.agg #[.int .i64 t, .slice A i c], .int .i64 0] rfl ⟨Se.resRow rfl (Reads.blk 2 rfl) (by kernel_rfl) (by kernel_rfl), rfl, trivial⟩ (by simp) rfl ?_
        refine ⟨A, c, by simp [rv], ?_⟩
        exact hs.u21.drop.drop.own_rd
  · have HN := Lib.hid (show newP n t = none by rw [newP_eq, if_neg hc])
    clear hc
    rw [HN.out]
    rcases hk with h1 | ⟨h1, h2⟩ | ⟨h1, h2, h3⟩ | ⟨h1, h2, h3, h4⟩
    all_goals
      go_enter Try.func25, Try.ntmps25
      go_wp2_with (first | ((with_reducible refine Se.isL (o := ⟨some 4, _, _, _, _, _⟩) ?_); (refine Se.toL rfl (Se.al (o := ⟨some 4, _, _, _, _, _⟩) hs rfl (rfl) ?_); clear hs; rintro w g4 - hs)) | ((with_reducible refine Se.isL (o := ⟨some 24, _, _, _, _, _⟩) ?_); (refine Se.toL rfl (Se.bd (o := ⟨some 24, _, _, _, _, _⟩) rfl rfl ((build_rp0 _)) ?_))) | ((with_reducible refine Se.isL (o := ⟨none, Op.store 59 _ _, _, _, _, _⟩) ?_); (refine Se.toL rfl (Se.sow 0 hs rfl rfl rfl rfl ((by simp [Value.oneCell'])) ((by kernel_rfl)) (rfl) ?_); clear hs; intro w hs; try simp only [List.set_cons_zero] at hs)))
      refine Se.ret hs [.agg #[.int .i64 0, .slice none 0 0], .int .i64 2] rfl ⟨Se.resRow rfl (Reads.blk 0 rfl) (by kernel_rfl) (by kernel_rfl), rfl, trivial⟩ (by simp) rfl ?_
      exact ⟨rfl, hs.drop⟩
end Pa
end Go.Proofs.Ytplhelhijjmlaaa

/- Layer 45: the methods that turn one path. -/
import Derived.Test.YtplhelhijjmlaaaPathAt
namespace Go.Proofs.Ytplhelhijjmlaaa
open Go Go.RowKit
namespace Pa
open Se (St At Reads Cell)
variable {w0 w : World} {X : List Nat} {L : List At} {D g off c : Nat} {p : PP}
set_option maxRecDepth 100000 in
set_option maxHeartbeats 1000000 in
theorem setState_st (hs : St w0 X (pD D (some ⟨g, off, none⟩) c p :: pG g off c p :: L) w) (hp : OkP p) (i gr s : Int) :
    Calls Try.prog 15 #[.pointer (some ⟨D, 0, none⟩), .int .i64 i, .int .i64 gr, .int .i64 s] w fun e w' => e = .returned (.int .i64 (setState p i gr s).2) ∧ St w0 X (pD D (some ⟨g, off, none⟩) c (setState p i gr s).1 :: pG g off c (setState p i gr s).1 :: L) w' := by
  have HP := Lib.hid hp
  clear hp
  obtain ⟨V, hV⟩ : ∃ V, V = (grp gr && sok s) := ⟨_, rfl⟩
  obtain ⟨y, hy⟩ : ∃ y, y = at' p i V := ⟨_, rfl⟩
  have hfin := Lib.hid (show setState p i gr s = if y = 0 then (put p i { get p i with st := (get p i).st.set gr.toNat s }, 0) else (p, y) by rw [hy, hV]; rfl)
  have HY := Lib.hid hy
  have HV := Lib.hid hV
  clear hy hV
  have key : ∃ b1 b2 : Bool, Hid ((!decide (false ∈ [grp gr, b1, b2])) = V) ∧ ((b1 = false ∧ b2 = true ∧ decide (1 ≤ s) = false ∧ s ≤ 4) ∨ (b1 = true ∧ b2 = true ∧ 1 ≤ s ∧ s ≤ 4) ∨ (b1 = true ∧ b2 = true ∧ s = 15) ∨ (b1 = true ∧ b2 = false ∧ 1 ≤ s ∧ decide (s ≤ 4) = false ∧ (s == 15) = false)) := by
    refine ⟨decide (1 ≤ s), decide (s ≤ 4) || decide (s = 15), Lib.hid ?_, ?_⟩
    · rw [HV.out]; unfold sok; cases grp gr <;> cases decide (1 ≤ s) <;> cases (decide (s ≤ 4) || decide (s = 15)) <;> rfl
    · simp; omega
  obtain ⟨b1, b2, HA, key⟩ := key
  have hz : y = 0 ∨ (y == 0) = false := by simp; omega
  rcases key with ⟨rfl, rfl, h1, h2⟩ | ⟨rfl, rfl, h1, h2⟩ | ⟨rfl, rfl, rfl⟩ | ⟨rfl, rfl, h1, h2, h3⟩
  all_goals
    go_enter Try.func15, Try.ntmps15
    go_wp2_with (first | ((with_reducible refine Se.isL (o := ⟨some 24, _, _, _, _, _⟩) ?_); (refine Se.toL rfl (Se.bsv (o := ⟨some 24, _, _, _, _, _⟩) hs rfl Try.underlying112 bool_info rfl ([.bool (grp gr), .bool false, .bool true]) (by rfl) (by rfl) (by decide) (by decide) (by simp [Value.oneCell']) ?_); clear hs; rintro w g24 - hs)) | ((with_reducible refine Se.isL (o := ⟨some 24, _, _, _, _, _⟩) ?_); (refine Se.toL rfl (Se.bsv (o := ⟨some 24, _, _, _, _, _⟩) hs rfl Try.underlying112 bool_info rfl ([.bool (grp gr), .bool true, .bool true]) (by rfl) (by rfl) (by decide) (by decide) (by simp [Value.oneCell']) ?_); clear hs; rintro w g24 - hs)) | ((with_reducible refine Se.isL (o := ⟨some 24, _, _, _, _, _⟩) ?_); (refine Se.toL rfl (Se.bsv (o := ⟨some 24, _, _, _, _, _⟩) hs rfl Try.underlying112 bool_info rfl ([.bool (grp gr), .bool true, .bool false]) (by rfl) (by rfl) (by decide) (by decide) (by simp [Value.oneCell']) ?_); clear hs; rintro w g24 - hs)) | (go_at_call 36; refine Calls.mono (group_st hs gr) ?_; clear hs; rintro e w ⟨rfl, hs⟩) | (go_at_call 32; refine Calls.mono (all_v hs _ V (Reads.blk 0 rfl) rfl (by decide) HA.out) ?_; clear hs; rintro e w ⟨rfl, hs⟩) | (go_at_call 34; fail))
    replace hs := hs.drop
  all_goals
    rcases hz with rfl | hz
    · refine Calls.mono (at_ok_st hs HP.out i V HY.out.symm) ?_
      clear hs
      rintro e w ⟨rfl, hs⟩
      obtain ⟨hvt, hri⟩ := at_ok HY.out.symm
      have hgg : grp gr = true := by
        have := HV.out
        rw [hvt] at this
        simp only [eq_comm (a := true), Bool.and_eq_true] at this
        exact this.1
      have hg1 : 0 ≤ gr ∧ gr < 129 ∧ 1 ≤ gr ∧ gr ≤ 128 := by
        have : 1 ≤ gr ∧ gr ≤ 128 := by simpa [grp] using hgg
        omega
      obtain ⟨hg1, hg2, hg3, hg4⟩ := hg1
      have HRI := Lib.hid hri
      have HGG := Lib.hid hgg
      clear hvt hri hgg
      go_wp2_with (first | ((with_reducible refine Se.isL (o := ⟨none, _, _, _, _, _⟩) ?_); ((first | refine Se.toL rfl (Se.sooe 1 (v := .int _ _) hs rfl rfl rfl rfl rfl (by kernel_rfl) ((by omega)) ((by rw [cells_len HP.out]; have := rng_lt HRI.out; omega)) ((set_st HP.out HRI.out HGG.out _)) ?_) | refine Se.toL rfl (Se.sooe 1 (v := .bool _) hs rfl rfl rfl rfl rfl (by kernel_rfl) ((by omega)) ((by rw [cells_len HP.out]; have := rng_lt HRI.out; omega)) ((set_st HP.out HRI.out HGG.out _)) ?_) | refine Se.toL rfl (Se.sooe 1 (v := .slice _ _ _) hs rfl rfl rfl rfl rfl (by kernel_rfl) ((by omega)) ((by rw [cells_len HP.out]; have := rng_lt HRI.out; omega)) ((set_st HP.out HRI.out HGG.out _)) ?_) | refine Se.toL rfl (Se.sooe 1 (v := .pointer _) hs rfl rfl rfl rfl rfl (by kernel_rfl) ((by omega)) ((by rw [cells_len HP.out]; have := rng_lt HRI.out; omega)) ((set_st HP.out HRI.out HGG.out _)) ?_) | refine Se.toL rfl (Se.sooe 1 (v := .string _) hs rfl rfl rfl rfl rfl (by kernel_rfl) ((by omega)) ((by rw [cells_len HP.out]; have := rng_lt HRI.out; omega)) ((set_st HP.out HRI.out HGG.out _)) ?_) | refine Se.toL rfl (Se.sooe 1 (v := .map _) hs rfl rfl rfl rfl rfl (by kernel_rfl) ((by omega)) ((by rw [cells_len HP.out]; have := rng_lt HRI.out; omega)) ((set_st HP.out HRI.out HGG.out _)) ?_) | refine Se.toL rfl (Se.sooe 1 (v := .func _ _ _) hs rfl rfl rfl rfl rfl (by kernel_rfl) ((by omega)) ((by rw [cells_len HP.out]; have := rng_lt HRI.out; omega)) ((set_st HP.out HRI.out HGG.out _)) ?_) | refine Se.toL rfl (Se.sooe 1 (v := .nilFunc) hs rfl rfl rfl rfl rfl (by kernel_rfl) ((by omega)) ((by rw [cells_len HP.out]; have := rng_lt HRI.out; omega)) ((set_st HP.out HRI.out HGG.out _)) ?_)); clear hs; intro w hs; try simp only [List.set_cons_zero, List.set_cons_succ] at hs)))
      go_ret
      rw [hfin.out.trans (if_pos trivial), pD_put, pG_put]
      exact ⟨rfl, hs⟩
    · refine Calls.mono (at_no_st hs HP.out i V y HY.out.symm (by simpa using hz)) ?_
      clear hs
      rintro e w ⟨rfl, hs⟩
      go_wp2
      go_ret
      rw [hfin.out.trans (if_neg (by simpa using hz))]
      exact ⟨rfl, hs⟩
end Pa
end Go.Proofs.Ytplhelhijjmlaaa

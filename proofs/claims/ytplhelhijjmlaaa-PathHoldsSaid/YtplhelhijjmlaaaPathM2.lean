/- Layer 45: State, turn, Connect, Disconnect, Submit, Done, Len. -/
import Derived.Test.YtplhelhijjmlaaaPathM1
namespace Go.Proofs.Ytplhelhijjmlaaa
open Go Go.RowKit
namespace Pa
open Se (St At Reads Cell)
variable {w0 w : World} {X : List Nat} {L : List At} {D g off c : Nat} {p : PP}
set_option maxRecDepth 100000 in
set_option maxHeartbeats 1000000 in
theorem state_st (hs : St w0 X (pD D (some ⟨g, off, none⟩) c p :: pG g off c p :: L) w) (hp : OkP p) (i gr : Int) :
    Calls Try.prog 22 #[.pointer (some ⟨D, 0, none⟩), .int .i64 i, .int .i64 gr] w fun e w' => e = .returned (.tuple #[.int .i64 (state p i gr).1, .int .i64 (state p i gr).2]) ∧ St w0 X (pD D (some ⟨g, off, none⟩) c p :: pG g off c p :: L) w' := by
  have HP := Lib.hid hp
  clear hp
  obtain ⟨y, hy⟩ : ∃ y, y = at' p i (grp gr) := ⟨_, rfl⟩
  have HY := Lib.hid hy
  by_cases hz : y = 0
  · have hf := Lib.hid (show state p i gr = (stOf (get p i) gr, 0) by unfold state; dsimp only; rw [← hy, if_pos hz])
    have hri := (at_ok (hy.symm.trans hz)).2
    have hgg := (at_ok (hy.symm.trans hz)).1
    obtain ⟨hg1, hg2, hg3, hg4⟩ : 0 ≤ gr ∧ gr < 129 ∧ 1 ≤ gr ∧ gr ≤ 128 := by
      have : 1 ≤ gr ∧ gr ≤ 128 := by simpa [grp] using hgg
      omega
    have HRI := Lib.hid hri
    have HGG := Lib.hid hgg
    have HZ := Lib.hid hz
    clear hri hgg hy hz
    go_enter Try.func22, Try.ntmps22
    go_wp2_with (first | ((with_reducible refine Se.isL (o := ⟨some 26, _, _, _, _, _⟩) ?_); (refine Se.toL rfl (Se.ld (o := ⟨some 26, _, _, _, _, _⟩) hs rfl rfl (c_st (k:=1) HP.out HRI.out rfl HGG.out) (by kernel_rfl) ?_))) | (go_at_call 36; refine Calls.mono (group_st hs gr) ?_; clear hs; rintro e w ⟨rfl, hs⟩) | (go_at_call 34; refine Calls.mono (at_ok_st hs HP.out i _ (HY.out.symm.trans HZ.out)) ?_; clear hs; rintro e w ⟨rfl, hs⟩))
    go_ret2
    rw [hf.out]
    exact ⟨rfl, hs⟩
  · have hf := Lib.hid (show state p i gr = (0, y) by unfold state; dsimp only; rw [← hy, if_neg hz])
    have hz' : (y == 0) = false := by simpa using hz
    have hz'' : (!decide (y = 0)) = true := by simpa using hz
    have HZ := Lib.hid hz
    clear hy hz
    go_enter Try.func22, Try.ntmps22
    go_wp2_with (first | (go_at_call 36; refine Calls.mono (group_st hs gr) ?_; clear hs; rintro e w ⟨rfl, hs⟩) | (go_at_call 34; refine Calls.mono (at_no_st hs HP.out i _ y HY.out.symm HZ.out) ?_; clear hs; rintro e w ⟨rfl, hs⟩))
    go_ret2
    rw [hf.out]
    exact ⟨rfl, hs⟩
set_option maxRecDepth 100000 in
set_option maxHeartbeats 1000000 in
theorem turn_st (hs : St w0 X (pD D (some ⟨g, off, none⟩) c p :: pG g off c p :: L) w) (hp : OkP p) (i : Int) (on : Bool) :
    Calls Try.prog 37 #[.pointer (some ⟨D, 0, none⟩), .int .i64 i, .bool on] w fun e w' => e = .returned (.tuple #[.int .i64 (turn p i on).2.1, .int .i64 (turn p i on).2.2]) ∧ St w0 X (pD D (some ⟨g, off, none⟩) c (turn p i on).1 :: pG g off c (turn p i on).1 :: L) w' := by
  have HP := Lib.hid hp
  clear hp
  obtain ⟨y, hy⟩ : ∃ y, y = at' p i true := ⟨_, rfl⟩
  have hyr : y = rng p i := hy
  have HY := Lib.hid hy
  by_cases hz : y = 0
  · have hri : rng p i = 0 := hyr.symm.trans hz
    obtain ⟨b, hb⟩ : ∃ b, b = (get p i).on := ⟨_, rfl⟩
    have HZ := Lib.hid hz
    have HRI := Lib.hid hri
    have HON := Lib.hid (show ∀ (L : List At) (k : Nat), L[k]? = some (pG g off c p) → Cell L g (off + i.toNat * 131) (.bool b) from fun _ _ h => hb ▸ c_on HP.out hri h)
    by_cases ho : b = on
    · have hf := Lib.hid (show turn p i on = (p, 0, 8) by unfold turn; dsimp only; rw [if_neg (by simp [hri]), if_pos (hb.symm.trans ho)])
      subst ho
      clear hyr hri hb hy hz
      go_enter Try.func37, Try.ntmps37
      go_wp2_with (first | ((with_reducible refine Se.isL (o := ⟨some 26, _, _, _, _, _⟩) ?_); (refine Se.toL rfl (Se.ld (o := ⟨some 26, _, _, _, _, _⟩) hs rfl rfl (HON.out _ 1 rfl) (by kernel_rfl) ?_))) | (go_at_call 34; refine Calls.mono (at_ok_st hs HP.out i true (HY.out.symm.trans HZ.out)) ?_; clear hs; rintro e w ⟨rfl, hs⟩))
      go_ret2
      rw [hf.out]
      exact ⟨rfl, hs⟩
    · have hf := Lib.hid (show turn p i on = (put p i { get p i with on := on, b := 0 }, (get p i).b, 0) by unfold turn; dsimp only; rw [if_neg (by simp [hri]), if_neg (fun h => ho (hb.trans h))])
      have ho' : (b == on) = false := by simpa using ho
      clear hyr hri hb hy hz ho
      go_enter Try.func37, Try.ntmps37
      go_wp2_with (first | ((with_reducible refine Se.isL (o := ⟨some 26, _, _, _, _, _⟩) ?_); (refine Se.toL rfl (Se.ld (o := ⟨some 26, _, _, _, _, _⟩) hs rfl rfl (HON.out _ 1 rfl) (by kernel_rfl) ?_))) | ((with_reducible refine Se.isL (o := ⟨some 33, _, _, _, _, _⟩) ?_); (refine Se.toL rfl (Se.ld (o := ⟨some 33, _, _, _, _, _⟩) hs rfl rfl (c_b (k:=1) HP.out HRI.out rfl) (by kernel_rfl) ?_))) | ((with_reducible refine Se.isL (o := ⟨none, _, _, _, _, _⟩) ?_); (refine Se.toL rfl (Se.soae 1 hs rfl rfl rfl rfl ((by simp [Value.oneCell'])) ((by kernel_rfl)) (by simp) (rfl) ((by simp only [List.length_cons, List.length_nil]; rw [cells_len HP.out]; have := rng_lt HRI.out; omega)) ((set_on HP.out HRI.out on 0)) ?_); clear hs; intro w hs; try simp only [List.set_cons_zero, List.set_cons_succ] at hs)) | (go_at_call 34; refine Calls.mono (at_ok_st hs HP.out i true (HY.out.symm.trans HZ.out)) ?_; clear hs; rintro e w ⟨rfl, hs⟩))
      go_ret2
      rw [hf.out]
      dsimp only
      rw [pD_put, pG_put]
      exact ⟨rfl, hs⟩
  · have hf := Lib.hid (show turn p i on = (p, 0, y) by unfold turn; dsimp only; rw [← hyr, if_pos hz])
    have hz' : (y == 0) = false := by simpa using hz
    have hz'' : (!decide (y = 0)) = true := by simpa using hz
    have HZ := Lib.hid hz
    clear hyr hy hz
    go_enter Try.func37, Try.ntmps37
    go_wp2_with (first | (go_at_call 34; refine Calls.mono (at_no_st hs HP.out i true y HY.out.symm HZ.out) ?_; clear hs; rintro e w ⟨rfl, hs⟩))
    go_ret2
    rw [hf.out]
    exact ⟨rfl, hs⟩
end Pa
end Go.Proofs.Ytplhelhijjmlaaa

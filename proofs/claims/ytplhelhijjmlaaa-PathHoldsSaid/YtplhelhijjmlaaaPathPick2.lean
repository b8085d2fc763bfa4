/- Layer 45: Pick itself. -/
import Derived.Test.YtplhelhijjmlaaaPathPick
set_option linter.unusedSimpArgs false
set_option linter.unusedVariables false
namespace Go.Proofs.Ytplhelhijjmlaaa
open Go Go.RowKit
namespace Pa
open Se (St At Reads Cell)
variable {w0 w : World} {X : List Nat} {L : List At} {D g off c : Nat} {p : PP}
theorem best_fil (l : List PS) (g s : Int) (n : Nat) : (filN l g s n = [] → bestN l g s n = none) ∧ (filN l g s n ≠ [] → bestN l g s n = some (minN l (filN l g s n) ((filN l g s n).length - 1))) := by
  rcases best_min l g s n with ⟨h1, h2⟩ | ⟨h1, h2⟩
  · exact ⟨fun _ => h2, fun h => absurd h1 h⟩
  · exact ⟨fun h => absurd h h1, fun _ => h2⟩
theorem ix0 (wx : World) : (Instr.index 96 (.agg #[.int .i64 1, .int .i64 2]) (.int .i64 0)).run Try.prog wx = .ok (.int .i64 1) wx := by kernel_rfl
theorem ix1 (wx : World) : (Instr.index 96 (.agg #[.int .i64 1, .int .i64 2]) (.int .i64 1)).run Try.prog wx = .ok (.int .i64 2) wx := by kernel_rfl
set_option maxRecDepth 100000 in
set_option maxHeartbeats 8000000 in
theorem pick_st (hs : St w0 X (pD D (some ⟨g, off, none⟩) c p :: pG g off c p :: L) w) (hp : OkP p) (gr : Int) :
    Calls Try.prog 21 #[.pointer (some ⟨D, 0, none⟩), .int .i64 gr] w fun e w' => e = .returned (.tuple #[.int .i64 (pick p gr).1, .int .i64 (pick p gr).2]) ∧ St w0 X (pD D (some ⟨g, off, none⟩) c p :: pG g off c p :: L) w' := by
  have HP := Lib.hid hp
  have hr0 : rng p 0 = 0 := by unfold rng; rw [if_pos (by have := hp.n1; omega)]
  clear hp
  cases hg : grp gr with
  | false =>
    have hf := Lib.hid (show pick p gr = (0, 2) by unfold pick; rw [if_pos hg])
    have HG := Lib.hid hg
    have HA := Lib.hid (show at' p 0 (grp gr) = 2 by rw [hg]; rfl)
    clear hg hr0
    go_enter Try.func21, Try.ntmps21
    go_upto_region 1 with (first | ((first | with_reducible refine Se.ab hs ?_ | with_reducible refine Se.abc hs ?_); clear hs; (first | ((fail_if_success (have _q := g2)); generalize w.heap.size = g2; intro w hs) | (generalize w.heap.size = g3; intro w hs))))
    refine Ch.region' 9 (fun wx => Li.Blk wx g2 [.pointer (some ⟨D, 0, none⟩)] 29 ∧ Li.Blk wx g3 [.int .i64 gr] 3) (fun | 2 => true | 3 => true | _ => false) (by kernel_rfl) (by decide +kernel) (⟨hs.drew.hold (.blk g2 29 _) (List.mem_cons_of_mem _ List.mem_cons_self), hs.drew.hold (.blk g3 3 _) List.mem_cons_self⟩) ?_
    replace hs := hs.drew
    generalize w.drew = w at hs ⊢
    change Ch.CW _ _ _ _ _ [0, 1, 2, 3, 4, 5, 6, 7, 8] _ _
    refine Ch.pure (v := .pointer (some ⟨D, 0, none⟩)) (by rfl) (by rfl) (by rfl) (fun wx hS => Se.xl rfl rfl (by rw [hS.1.cell]; rfl) (by kernel_rfl)) ?_
    (try simp only [Act.put, List.setIfInBounds_toArray, List.set_cons_zero, List.set_cons_succ])
    refine Ch.pure (v := .int .i64 gr) (by rfl) (by rfl) (by rfl) (fun wx hS => Se.xl rfl rfl (by rw [hS.2.cell]; rfl) (by kernel_rfl)) ?_
    (try simp only [Act.put, List.setIfInBounds_toArray, List.set_cons_zero, List.set_cons_succ])
    refine Ch.noise (by rfl) (by rfl) (by rfl) ?_
    refine Se.gcall (f := 36) (args := #[.int .i64 gr]) ?_ ?_
    · go_simp
    refine Calls.mono (group_st hs gr) ?_
    clear hs
    rintro e w ⟨rfl, hs⟩
    refine ⟨_, rfl, ⟨hs.hold (.blk g2 29 _) (List.mem_cons_of_mem _ List.mem_cons_self), hs.hold (.blk g3 3 _) List.mem_cons_self⟩, ?_⟩
    (try simp only [Act.put, List.setIfInBounds_toArray, List.set_cons_zero, List.set_cons_succ])
    refine Ch.noise (by rfl) (by rfl) (by rfl) ?_
    refine Se.gcall (f := 34) (args := #[.pointer (some ⟨D, 0, none⟩), .int .i64 0, .bool (grp gr)]) ?_ ?_
    · go_simp
    refine Calls.mono (at_no_st hs.u22 HP.out 0 _ 2 HA.out (by decide)) ?_
    clear hs
    rintro e w ⟨rfl, hs⟩
    refine ⟨_, rfl, ⟨hs.hold (.blk g2 29 _) (List.mem_cons_of_mem _ (List.mem_cons_of_mem _ (List.mem_cons_of_mem _ List.mem_cons_self))), hs.hold (.blk g3 3 _) (List.mem_cons_of_mem _ (List.mem_cons_of_mem _ List.mem_cons_self))⟩, ?_⟩
    (try simp only [Act.put, List.setIfInBounds_toArray, List.set_cons_zero, List.set_cons_succ])
    iterate 5 (refine Ch.pure (v := ?_) (by rfl) (by rfl) (by rfl) (fun wx hS => ?_) ?_; rotate_left; (focus (go_simp; (first | done | with_reducible rfl))); (try simp only [Act.put, List.setIfInBounds_toArray, List.set_cons_zero, List.set_cons_succ]))
    refine Ch.done ?_
    simp only [List.drop_succ_cons, List.drop_zero]
    go_wp2_with fail
    go_ret2
    rw [hf.out]
    exact ⟨rfl, hs.u22.drop.drop⟩
  | true =>
    have HG := Lib.hid hg
    have HA := Lib.hid (show at' p 0 (grp gr) = 0 by rw [hg]; exact hr0)
    obtain ⟨n, hn⟩ : ∃ n, n = p.l.length := ⟨_, rfl⟩
    have HN := Lib.hid hn
    have FB := Lib.hid (fun s => best_fil p.l gr s p.l.length)
    have FL := Lib.hid (fun s => filN_lt p.l gr s p.l.length)
    have FN := Lib.hid (fun s => show (filN p.l gr s p.l.length).length ≤ 32 by have := filN_len p.l gr s p.l.length; have := HP.out.n2; omega)
    have FA := Lib.hid (any_fil p.l gr 15 p.l.length)
    clear hg hr0 hn
    go_enter Try.func21, Try.ntmps21
    go_upto_region 1 with (first | ((first | with_reducible refine Se.ab hs ?_ | with_reducible refine Se.abc hs ?_); clear hs; (first | ((fail_if_success (have _q := g2)); generalize w.heap.size = g2; intro w hs) | (generalize w.heap.size = g3; intro w hs))))
    refine Ch.region' 9 (fun wx => Li.Blk wx g2 [.pointer (some ⟨D, 0, none⟩)] 29 ∧ Li.Blk wx g3 [.int .i64 gr] 3) (fun | 2 => true | 3 => true | _ => false) (by kernel_rfl) (by decide +kernel) (⟨hs.drew.hold (.blk g2 29 _) (List.mem_cons_of_mem _ List.mem_cons_self), hs.drew.hold (.blk g3 3 _) List.mem_cons_self⟩) ?_
    replace hs := hs.drew
    generalize w.drew = w at hs ⊢
    change Ch.CW _ _ _ _ _ [0, 1, 2, 3, 4, 5, 6, 7, 8] _ _
    refine Ch.pure (v := .pointer (some ⟨D, 0, none⟩)) (by rfl) (by rfl) (by rfl) (fun wx hS => Se.xl rfl rfl (by rw [hS.1.cell]; rfl) (by kernel_rfl)) ?_
    (try simp only [Act.put, List.setIfInBounds_toArray, List.set_cons_zero, List.set_cons_succ])
    refine Ch.pure (v := .int .i64 gr) (by rfl) (by rfl) (by rfl) (fun wx hS => Se.xl rfl rfl (by rw [hS.2.cell]; rfl) (by kernel_rfl)) ?_
    (try simp only [Act.put, List.setIfInBounds_toArray, List.set_cons_zero, List.set_cons_succ])
    refine Ch.noise (by rfl) (by rfl) (by rfl) ?_
    refine Se.gcall (f := 36) (args := #[.int .i64 gr]) ?_ ?_
    · go_simp
    refine Calls.mono (group_st hs gr) ?_
    clear hs
    rintro e w ⟨rfl, hs⟩
    refine ⟨_, rfl, ⟨hs.hold (.blk g2 29 _) (List.mem_cons_of_mem _ List.mem_cons_self), hs.hold (.blk g3 3 _) List.mem_cons_self⟩, ?_⟩
    (try simp only [Act.put, List.setIfInBounds_toArray, List.set_cons_zero, List.set_cons_succ])
    refine Ch.noise (by rfl) (by rfl) (by rfl) ?_
    refine Se.gcall (f := 34) (args := #[.pointer (some ⟨D, 0, none⟩), .int .i64 0, .bool (grp gr)]) ?_ ?_
    · go_simp
    refine Calls.mono (at_ok_st hs.u22 HP.out 0 _ HA.out) ?_
    clear hs
    rintro e w ⟨rfl, hs⟩
    refine ⟨_, rfl, ⟨hs.hold (.blk g2 29 _) (List.mem_cons_of_mem _ (List.mem_cons_of_mem _ (List.mem_cons_of_mem _ List.mem_cons_self))), hs.hold (.blk g3 3 _) (List.mem_cons_of_mem _ (List.mem_cons_of_mem _ List.mem_cons_self))⟩, ?_⟩
    (try simp only [Act.put, List.setIfInBounds_toArray, List.set_cons_zero, List.set_cons_succ])
    iterate 5 (refine Ch.pure (v := ?_) (by rfl) (by rfl) (by rfl) (fun wx hS => ?_) ?_; rotate_left; (focus (go_simp; (first | done | with_reducible rfl))); (try simp only [Act.put, List.setIfInBounds_toArray, List.set_cons_zero, List.set_cons_succ]))
    refine Ch.done ?_
    simp only [List.drop_succ_cons, List.drop_zero]
    replace hs := hs.u22
    go_wp2_with fail
    have R1 := Lib.hid (fun (w : World) (hs : St w0 X (.blk g3 3 [.int .i64 gr] :: .blk g2 29 [.pointer (some ⟨D, 0, none⟩)] :: pD D (some ⟨g, off, none⟩) c p :: pG g off c p :: L) w) (s : Int) (F : List Nat) (hF : filN p.l gr s p.l.length = F) => pick1_st (pb := g2) (gb := g3) hs HP.out (Cell.blk 1 rfl rfl) (Cell.blk 2 rfl rfl) (Reads.own 3 rfl) HG.out (Cell.blk 0 rfl rfl) s hF)
    go_loopg [24] 2 (fun gh s24 wr => ∃ k : Int, gh = (2 - k).toNat ∧ 0 ≤ k ∧ k ≤ 2 ∧ s24 = .int .i64 k ∧ Hid (∀ s : Int, 1 ≤ s → s ≤ k → bestN p.l gr s p.l.length = none) ∧ St w0 X (.blk g3 3 [.int .i64 gr] :: .blk g2 29 [.pointer (some ⟨D, 0, none⟩)] :: pD D (some ⟨g, off, none⟩) c p :: pG g off c p :: L) wr)
    case atStart => exact ⟨0, rfl, by omega, by omega, rfl, Lib.hid (fun s h1 h2 => by omega), hs⟩
    case round =>
      clear hs
      rename World => w
      obtain ⟨k, rfl, hk0, hk, rfl, HB, hs⟩ := hrel
      have hx0 := ix0
      have hx1 := ix1
      have hk3 : k = 0 ∨ k = 1 ∨ k = 2 := by omega
      clear hk0 hk
      rcases hk3 with rfl | rfl | rfl
      · obtain ⟨F, hF⟩ : ∃ F, filN p.l gr 1 p.l.length = F := ⟨_, rfl⟩
        have HF := Lib.hid hF
        clear hF
        by_cases hF0 : F = []
        · subst hF0
          go_wp2_with (first | (go_at_call 38; refine Calls.mono (R1.out _ hs 1 [] HF.out) ?_; clear hs; rintro e w ⟨r, B, c', rfl, hs⟩))
          go_roundg (2 - (0 + 1 : Int)).toNat
          case measure => decide
          case rel =>
            refine ⟨1, rfl, by omega, by omega, rfl, Lib.hid (fun s h1 h2 => ?_), hs.drop⟩
            have hs' : s = 1 := by omega
            subst hs'
            exact (FB.out 1).1 HF.out
        · have hm : 0 < F.length := List.length_pos_iff.2 hF0
          have hm' : (0 : Int) < (F.length : Int) := by omega
          have hf := Lib.hid (show pick p gr = (((minN p.l F (F.length - 1) : Nat) : Int), 0) from pick_1 HG.out (by rw [(FB.out 1).2 (by rw [HF.out]; exact hF0), HF.out]))
          have hlt := Lib.hid (show ∀ j ∈ F, j < p.l.length from fun j hj => FL.out 1 j (by rw [HF.out]; exact hj))
          have hle := Lib.hid (show F.length ≤ 1000 by have := FN.out 1; rw [HF.out] at this; omega)
          have H0 := Lib.hid hF0
          clear hF0 hm
          go_wp2_with (first | (go_at_call 38; refine Calls.mono (R1.out _ hs 1 F HF.out) ?_; clear hs; rintro e w ⟨r, B, c', rfl, hs⟩) | (go_at_call 42; refine Calls.mono (minFunc_st (pb := g2) hs HP.out (Cell.blk 2 rfl rfl) (Cell.blk 3 rfl rfl) (Reads.own 4 rfl) F hlt.out H0.out hle.out (Reads.own 0 rfl)) ?_; clear hs; rintro e w ⟨rfl, hs⟩))
          go_ret2
          rw [hf.out]
          exact ⟨rfl, hs.drop.drop.drop⟩
      · obtain ⟨F, hF⟩ : ∃ F, filN p.l gr 2 p.l.length = F := ⟨_, rfl⟩
        have HF := Lib.hid hF
        clear hF
        by_cases hF0 : F = []
        · subst hF0
          go_wp2_with (first | (go_at_call 38; refine Calls.mono (R1.out _ hs 2 [] HF.out) ?_; clear hs; rintro e w ⟨r, B, c', rfl, hs⟩))
          go_roundg (2 - (1 + 1 : Int)).toNat
          case measure => decide
          case rel =>
            refine ⟨2, rfl, by omega, by omega, rfl, Lib.hid (fun s h1 h2 => ?_), hs.drop⟩
            have hs' : s = 1 ∨ s = 2 := by omega
            rcases hs' with rfl | rfl
            · exact HB.out 1 (by omega) (by omega)
            · exact (FB.out 2).1 HF.out
        · have hm : 0 < F.length := List.length_pos_iff.2 hF0
          have hm' : (0 : Int) < (F.length : Int) := by omega
          have hf := Lib.hid (show pick p gr = (((minN p.l F (F.length - 1) : Nat) : Int), 0) from pick_2 HG.out (HB.out 1 (by omega) (by omega)) (by rw [(FB.out 2).2 (by rw [HF.out]; exact hF0), HF.out]))
          have hlt := Lib.hid (show ∀ j ∈ F, j < p.l.length from fun j hj => FL.out 2 j (by rw [HF.out]; exact hj))
          have hle := Lib.hid (show F.length ≤ 1000 by have := FN.out 2; rw [HF.out] at this; omega)
          have H0 := Lib.hid hF0
          clear hF0 hm
          go_wp2_with (first | (go_at_call 38; refine Calls.mono (R1.out _ hs 2 F HF.out) ?_; clear hs; rintro e w ⟨r, B, c', rfl, hs⟩) | (go_at_call 42; refine Calls.mono (minFunc_st (pb := g2) hs HP.out (Cell.blk 2 rfl rfl) (Cell.blk 3 rfl rfl) (Reads.own 4 rfl) F hlt.out H0.out hle.out (Reads.own 0 rfl)) ?_; clear hs; rintro e w ⟨rfl, hs⟩))
          go_ret2
          rw [hf.out]
          exact ⟨rfl, hs.drop.drop.drop⟩
      · obtain ⟨F, hF⟩ : ∃ F, filN p.l gr 15 p.l.length = F := ⟨_, rfl⟩
        have HF := Lib.hid hF
        have h3 := pick_3 HG.out (HB.out 1 (by omega) (by omega)) (HB.out 2 (by omega) (by omega))
        rw [FA.out, hF] at h3
        clear hF
        by_cases hF0 : F = []
        · subst hF0
          have hf := Lib.hid (h3.trans (if_neg (by simp)))
          clear h3
          go_wp2_with (first | (go_at_call 38; refine Calls.mono (R1.out _ hs 15 [] HF.out) ?_; clear hs; rintro e w ⟨r, B, c', rfl, hs⟩))
          go_ret2
          rw [hf.out]
          exact ⟨rfl, hs.drop.drop.drop⟩
        · have hm : 0 < F.length := List.length_pos_iff.2 hF0
          have hm' : (0 : Int) < (F.length : Int) := by omega
          have hf := Lib.hid (h3.trans (if_pos (by simpa using hF0)))
          clear h3 hF0 hm
          go_wp2_with (first | (go_at_call 38; refine Calls.mono (R1.out _ hs 15 F HF.out) ?_; clear hs; rintro e w ⟨r, B, c', rfl, hs⟩))
          go_ret2
          rw [hf.out]
          exact ⟨rfl, hs.drop.drop.drop⟩
end Pa
end Go.Proofs.Ytplhelhijjmlaaa

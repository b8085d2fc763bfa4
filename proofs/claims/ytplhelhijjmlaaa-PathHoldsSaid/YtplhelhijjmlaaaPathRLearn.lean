/- Layer 45: the reference's Learn. -/
import Derived.Test.YtplhelhijjmlaaaPathRef3
set_option linter.unusedSimpArgs false
set_option linter.unusedVariables false
namespace Go.Proofs.Ytplhelhijjmlaaa
open Go Go.RowKit
namespace Pa
open Se (St At Reads Cell)
variable {w0 w : World} {X : List Nat} {L : List At} {A : Option Addr} {c : Nat} {p : PP}
theorem int_info : (Try.prog.info? 3).map (fun i => (i.zero, i.size)) = some (some (.int .i64 0), 1) := by kernel_rfl
theorem learn_set (p : PP) (i gr : Int) (s : Sta) {t : Int} (h3 : s.ty = 3) (h : learnt s.code = some t) (ht : sok t = true) : learn p i gr s = setState p i gr t := by
  unfold learn setState
  rw [if_pos h3, h, ht, Bool.and_true]
  dsimp only
  by_cases he : at' p i (grp gr) = 0
  · rw [if_neg (by simpa using he), if_pos he]
  · rw [if_pos he, if_neg he]
set_option maxRecDepth 100000 in
set_option maxHeartbeats 4000000 in
theorem rLearn_st (hs : St w0 X L w) (hm : At.rd A (cells p.l) ∈ L) (hp : OkP p) (i gr : Int) (s : Sta) :
    Calls Try.prog 49 #[rv p A c, .int .i64 i, .int .i64 gr, stv s] w fun e w' => ∃ A' c', e = .returned (.tuple #[rv (learn p i gr s).1 A' c', .int .i64 (learn p i gr s).2]) ∧ St w0 X (.rd A' (cells (learn p i gr s).1.l) :: L) w' := by
  have HP := Lib.hid hp
  obtain ⟨g, off, rfl⟩ := rd_some hs hm hp
  have HM := Lib.hid hm
  clear hm hp
  obtain ⟨ty, code, more, never⟩ := s
  cases hg : grp gr with
  | false =>
    have hf := Lib.hid (show learn p i gr ⟨ty, code, more, never⟩ = (p, 2) by unfold learn at'; simp [hg])
    have HG := Lib.hid hg
    clear hg
    go_enter Try.func49, Try.ntmps49
    go_wp2_with (first | ((with_reducible refine Se.isL (o := ⟨some 8, _, _, _, _, _⟩) ?_); (refine Se.toL rfl (Se.al (o := ⟨some 8, _, _, _, _, _⟩) hs rfl (rfl) ?_); clear hs; rintro w g8 - hs)) | ((with_reducible refine Se.isL (o := ⟨some 14, _, _, _, _, _⟩) ?_); (refine Se.toL rfl (Se.ldw (o := ⟨some 14, _, _, _, _, _⟩) hs rfl rfl ((Reads.blk 2 rfl)) ((by kernel_rfl)) (by kernel_rfl) ?_))) | ((with_reducible refine Se.isL (o := ⟨none, Op.store 59 _ _, _, _, _, _⟩) ?_); (refine Se.toL rfl (Se.sow 0 hs rfl rfl rfl rfl ((by simp [Value.oneCell'])) ((by kernel_rfl)) (rfl) ?_); clear hs; intro w hs; try simp only [List.set_cons_zero] at hs)) | ((first | with_reducible refine Se.ab hs ?_ | with_reducible refine Se.abc hs ?_); clear hs; (first | (generalize w.heap.size = g4; intro w hs))) | (go_at_call 57; refine Calls.mono (rgroup_st' hs gr HG.out) ?_; clear hs; rintro e w ⟨rfl, hs⟩))
    refine Se.ret hs [rv _ _ _, .int .i64 2] rfl ⟨Se.resRow rfl (Reads.blk 0 rfl) (by kernel_rfl) (by kernel_rfl), rfl, trivial⟩ (by simp) rfl ?_
    rw [hf.out]
    exact ⟨_, _, rfl, hs.drop.drop.drop.dup HM.out⟩
  | true =>
    have HG := Lib.hid hg
    by_cases hri : rng p i = 0
    · have HRI := Lib.hid hri
      have h0 : at' p i (grp gr) = 0 := by rw [hg]; exact hri
      have hn : (if ty = 3 then learnt code else none) = none → learn p i gr ⟨ty, code, more, never⟩ = (p, 0) := fun h => by
        unfold learn; dsimp only; rw [if_neg (by simpa using h0), h]
      have key : ((ty != 3) = true ∧ learn p i gr ⟨ty, code, more, never⟩ = (p, 0)) ∨ (ty = 3 ∧ (code < 1 ∧ learn p i gr ⟨3, code, more, never⟩ = (p, 0) ∨ decide (code < 1) = false ∧ 3 < code ∧ learn p i gr ⟨3, code, more, never⟩ = (p, 0))) ∨ (ty = 3 ∧ (code = 1 ∧ learn p i gr ⟨3, 1, more, never⟩ = setState p i gr 4 ∨ code = 2 ∧ learn p i gr ⟨3, 2, more, never⟩ = setState p i gr 3 ∨ code = 3 ∧ learn p i gr ⟨3, 3, more, never⟩ = setState p i gr 15)) := by
        by_cases h3 : ty = 3
        · subst h3
          right
          rw [if_pos rfl] at hn
          by_cases h1 : code < 1
          · left; exact ⟨rfl, .inl ⟨h1, hn (by unfold learnt; rw [if_neg (by omega), if_neg (by omega), if_neg (by omega)])⟩⟩
          · by_cases h4 : 3 < code
            · left; exact ⟨rfl, .inr ⟨by simpa using h1, h4, hn (by unfold learnt; rw [if_neg (by omega), if_neg (by omega), if_neg (by omega)])⟩⟩
            · right
              refine ⟨rfl, ?_⟩
              have : code = 1 ∨ code = 2 ∨ code = 3 := by omega
              rcases this with rfl | rfl | rfl
              · exact .inl ⟨rfl, learn_set p i gr _ rfl rfl rfl⟩
              · exact .inr (.inl ⟨rfl, learn_set p i gr _ rfl rfl rfl⟩)
              · exact .inr (.inr ⟨rfl, learn_set p i gr _ rfl rfl rfl⟩)
        · left; exact ⟨by simpa using h3, hn (if_neg h3)⟩
      clear hri h0 hn hg
      rcases key with ⟨h1, hf⟩ | ⟨rfl, ⟨h1, hf⟩ | ⟨h1, h2, hf⟩⟩ | ⟨rfl, ⟨rfl, hf⟩ | ⟨rfl, hf⟩ | ⟨rfl, hf⟩⟩
      iterate 3
        · have HF := Lib.hid hf
          clear hf
          go_enter Try.func49, Try.ntmps49
          go_wp2_with (first | ((with_reducible refine Se.isL (o := ⟨some 8, _, _, _, _, _⟩) ?_); (refine Se.toL rfl (Se.al (o := ⟨some 8, _, _, _, _, _⟩) hs rfl (rfl) ?_); clear hs; rintro w g8 - hs)) | ((with_reducible refine Se.isL (o := ⟨some 15, _, _, _, _, _⟩) ?_); (refine Se.toL rfl (Se.ldw (o := ⟨some 15, _, _, _, _, _⟩) hs rfl rfl ((Reads.blk 2 rfl)) ((by kernel_rfl)) (by kernel_rfl) ?_))) | ((with_reducible refine Se.isL (o := ⟨some 23, _, _, _, _, _⟩) ?_); (refine Se.toL rfl (Se.ld (o := ⟨some 23, _, _, _, _, _⟩) hs rfl rfl (Cell.blk 1 rfl rfl) (by kernel_rfl) ?_))) | ((with_reducible refine Se.isL (o := ⟨some 27, _, _, _, _, _⟩) ?_); (refine Se.toL rfl (Se.ld (o := ⟨some 27, _, _, _, _, _⟩) hs rfl rfl (Cell.blk 1 rfl rfl) (by kernel_rfl) ?_))) | ((with_reducible refine Se.isL (o := ⟨some 32, _, _, _, _, _⟩) ?_); (refine Se.toL rfl (Se.ld (o := ⟨some 32, _, _, _, _, _⟩) hs rfl rfl (Cell.blk 1 rfl rfl) (by kernel_rfl) ?_))) | ((with_reducible refine Se.isL (o := ⟨some 35, _, _, _, _, _⟩) ?_); (refine Se.toL rfl (Se.ldw (o := ⟨some 35, _, _, _, _, _⟩) hs rfl rfl ((Reads.blk 2 rfl)) ((by kernel_rfl)) (by kernel_rfl) ?_))) | ((with_reducible refine Se.isL (o := ⟨none, Op.store 59 _ _, _, _, _, _⟩) ?_); (refine Se.toL rfl (Se.sow 0 hs rfl rfl rfl rfl ((by simp [Value.oneCell'])) ((by kernel_rfl)) (rfl) ?_); clear hs; intro w hs; try simp only [List.set_cons_zero] at hs)) | ((first | with_reducible refine Se.ab hs ?_ | with_reducible refine Se.abc hs ?_); clear hs; (first | (generalize w.heap.size = g4; intro w hs))) | (go_at_call 57; refine Calls.mono (rgroup_st' hs gr HG.out) ?_; clear hs; rintro e w ⟨rfl, hs⟩) | (go_at_call 58; refine Calls.mono (wrong_st' hs i HRI.out) ?_; clear hs; rintro e w ⟨rfl, hs⟩))
          refine Se.ret hs [rv _ _ _, .int .i64 0] rfl ⟨Se.resRow rfl (Reads.blk 0 rfl) (by kernel_rfl) (by kernel_rfl), rfl, trivial⟩ (by simp) rfl ?_
          rw [HF.out]
          exact ⟨_, _, rfl, hs.drop.drop.drop.dup HM.out⟩
      · have HF := Lib.hid hf
        clear hf
        go_enter Try.func49, Try.ntmps49
        go_upto_region 8 with (first | ((with_reducible refine Se.isL (o := ⟨some 8, _, _, _, _, _⟩) ?_); (refine Se.toL rfl (Se.al (o := ⟨some 8, _, _, _, _, _⟩) hs rfl (rfl) ?_); clear hs; rintro w g8 - hs)) | ((with_reducible refine Se.isL (o := ⟨some 15, _, _, _, _, _⟩) ?_); (refine Se.toL rfl (Se.ldw (o := ⟨some 15, _, _, _, _, _⟩) hs rfl rfl ((Reads.blk 2 rfl)) ((by kernel_rfl)) (by kernel_rfl) ?_))) | ((with_reducible refine Se.isL (o := ⟨some 23, _, _, _, _, _⟩) ?_); (refine Se.toL rfl (Se.ld (o := ⟨some 23, _, _, _, _, _⟩) hs rfl rfl (Cell.blk 1 rfl rfl) (by kernel_rfl) ?_))) | ((with_reducible refine Se.isL (o := ⟨some 27, _, _, _, _, _⟩) ?_); (refine Se.toL rfl (Se.ld (o := ⟨some 27, _, _, _, _, _⟩) hs rfl rfl (Cell.blk 1 rfl rfl) (by kernel_rfl) ?_))) | ((with_reducible refine Se.isL (o := ⟨some 32, _, _, _, _, _⟩) ?_); (refine Se.toL rfl (Se.ld (o := ⟨some 32, _, _, _, _, _⟩) hs rfl rfl (Cell.blk 1 rfl rfl) (by kernel_rfl) ?_))) | ((first | with_reducible refine Se.ab hs ?_ | with_reducible refine Se.abc hs ?_); clear hs; (first | ((fail_if_success (have _q := g4)); generalize w.heap.size = g4; intro w hs) | (generalize w.heap.size = g7; intro w hs))) | (go_at_call 57; refine Calls.mono (rgroup_st' hs gr HG.out) ?_; clear hs; rintro e w ⟨rfl, hs⟩) | (go_at_call 58; refine Calls.mono (wrong_st' hs i HRI.out) ?_; clear hs; rintro e w ⟨rfl, hs⟩))
        have HS : ∀ (L' : List At) (w' : World) (l8 : List Value), St w0 X (L' ++ .blk g8 59 l8 :: .blk g7 23 [.int .u8 3, .int .u8 1, .bool more, .bool never] :: .blk g4 59 [.int .i64 p.tries, .slice (some ⟨g, off, none⟩) p.l.length c] :: L) w' → Li.Blk w' g4 [.int .i64 p.tries, .slice (some ⟨g, off, none⟩) p.l.length c] 59 ∧ Li.Blk w' g7 [.int .u8 3, .int .u8 1, .bool more, .bool never] 23 := fun _ _ _ h => ⟨h.hold (.blk g4 59 _) (List.mem_append.2 (.inr (List.mem_cons_of_mem _ (List.mem_cons_of_mem _ List.mem_cons_self)))), h.hold (.blk g7 23 _) (List.mem_append.2 (.inr (List.mem_cons_of_mem _ List.mem_cons_self)))⟩
        have HS := Lib.hid HS
        refine Ch.region' 13 (fun wx => Li.Blk wx g4 [.int .i64 p.tries, .slice (some ⟨g, off, none⟩) p.l.length c] 59 ∧ Li.Blk wx g7 [.int .u8 3, .int .u8 1, .bool more, .bool never] 23) (fun | 3 => true | 7 => true | 8 => true | 11 => true | _ => false) (by kernel_rfl) (by decide +kernel) (HS.out [] _ _ hs.drew) ?_
        replace hs := hs.drew
        generalize w.drew = w at hs ⊢
        change Ch.CW _ _ _ _ _ [0, 1, 2, 3, 4, 5, 6, 7, 8, 9, 10, 11, 12] _ _
        refine Ch.pure (v := .agg #[.int .i64 p.tries, .slice (some ⟨g, off, none⟩) p.l.length c]) (by rfl) (by rfl) (by rfl) (fun wx hS => Se.xla rfl rfl (Li.Rd.of_blk hS.1) (by kernel_rfl) (by kernel_rfl)) ?_
        (try simp only [Act.put, List.setIfInBounds_toArray, List.set_cons_zero, List.set_cons_succ])
        iterate 2 (refine Ch.pure (v := ?_) (by rfl) (by rfl) (by rfl) (fun wx hS => ?_) ?_; rotate_left; (focus (go_simp; (first | done | with_reducible rfl))); (try simp only [Act.put, List.setIfInBounds_toArray, List.set_cons_zero, List.set_cons_succ]))
        refine Ch.noise (by rfl) (by rfl) (by rfl) (Se.bsv hs rfl Try.underlying91 int_info rfl [.int .i64 0, .int .i64 4, .int .i64 3, .int .i64 15] (by rfl) rfl (by decide) (by decide) (by simp [Value.oneCell']) ?_)
        clear hs
        rintro w g39 - hs
        refine ⟨HS.out [_] _ _ hs, ?_⟩
        (try simp only [Act.put, List.setIfInBounds_toArray, List.set_cons_zero, List.set_cons_succ])
        iterate 1 (refine Ch.pure (v := ?_) (by rfl) (by rfl) (by rfl) (fun wx hS => ?_) ?_; rotate_left; (focus (go_simp; (first | done | with_reducible rfl))); (try simp only [Act.put, List.setIfInBounds_toArray, List.set_cons_zero, List.set_cons_succ]))
        refine Ch.pure (v := .int .u8 1) (by rfl) (by rfl) (by rfl) (fun wx hS => Se.xl rfl rfl (hS.2.cell 1) (by kernel_rfl)) ?_
        (try simp only [Act.put, List.setIfInBounds_toArray, List.set_cons_zero, List.set_cons_succ])
        iterate 1 (refine Ch.pure (v := ?_) (by rfl) (by rfl) (by rfl) (fun wx hS => ?_) ?_; rotate_left; (focus (go_simp; (first | done | with_reducible rfl))); (try simp only [Act.put, List.setIfInBounds_toArray, List.set_cons_zero, List.set_cons_succ]))
        refine Ch.noise (by rfl) (by rfl) (by rfl) (Se.ld hs rfl rfl (Cell.blk 0 rfl rfl) (by kernel_rfl) ?_)
        refine ⟨HS.out [_] _ _ hs, ?_⟩
        (try simp only [Act.put, List.setIfInBounds_toArray, List.set_cons_zero, List.set_cons_succ])
        refine Ch.noise (by rfl) (by rfl) (by rfl) ?_
        refine Se.gcall (f := 45) (args := #[rv p (some ⟨g, off, none⟩) c, .int .i64 i, .int .i64 gr, .int .i64 4]) ?_ ?_
        · go_simp
        refine Calls.mono (rSetState_st hs (by simp only [List.mem_cons, HM.out, or_true]) HP.out i gr 4) ?_
        clear hs
        rintro e w ⟨A', c', rfl, hs⟩
        refine ⟨_, rfl, HS.out [_, _] _ _ hs, ?_⟩
        (try simp only [Act.put, List.setIfInBounds_toArray, List.set_cons_zero, List.set_cons_succ])
        iterate 2 (refine Ch.pure (v := ?_) (by rfl) (by rfl) (by rfl) (fun wx hS => ?_) ?_; rotate_left; (focus (go_simp; (first | done | with_reducible rfl))); (try simp only [Act.put, List.setIfInBounds_toArray, List.set_cons_zero, List.set_cons_succ]))
        refine Ch.noise (by rfl) (by rfl) (by rfl) (Se.sow 2 (vs := rvl (setState p i gr 4).1 A' c') hs rfl rfl rfl rfl (by simp [Value.oneCell']) (by kernel_rfl) rfl ?_)
        clear hs
        intro w hs
        simp only [List.set_cons_zero, List.set_cons_succ] at hs
        refine ⟨HS.out [_, _] _ _ hs, ?_⟩
        (try simp only [Act.put, List.setIfInBounds_toArray, List.set_cons_zero, List.set_cons_succ])
        iterate 1 (refine Ch.pure (v := ?_) (by rfl) (by rfl) (by rfl) (fun wx hS => ?_) ?_; rotate_left; (focus (go_simp; (first | done | with_reducible rfl))); (try simp only [Act.put, List.setIfInBounds_toArray, List.set_cons_zero, List.set_cons_succ]))
        refine Ch.done ?_
        simp only [List.drop_succ_cons, List.drop_zero]
        go_wp2_with fail
        refine Se.ret hs [rv _ _ _, .int .i64 (setState p i gr 4).2] rfl ⟨Se.resRow rfl (Reads.blk 2 rfl) (by kernel_rfl) (by kernel_rfl), rfl, trivial⟩ (by simp) rfl ?_
        rw [HF.out]
        exact ⟨_, _, rfl, hs.u41.drop.drop.drop.drop⟩
      · have HF := Lib.hid hf
        clear hf
        go_enter Try.func49, Try.ntmps49
        go_upto_region 8 with (first | ((with_reducible refine Se.isL (o := ⟨some 8, _, _, _, _, _⟩) ?_); (refine Se.toL rfl (Se.al (o := ⟨some 8, _, _, _, _, _⟩) hs rfl (rfl) ?_); clear hs; rintro w g8 - hs)) | ((with_reducible refine Se.isL (o := ⟨some 15, _, _, _, _, _⟩) ?_); (refine Se.toL rfl (Se.ldw (o := ⟨some 15, _, _, _, _, _⟩) hs rfl rfl ((Reads.blk 2 rfl)) ((by kernel_rfl)) (by kernel_rfl) ?_))) | ((with_reducible refine Se.isL (o := ⟨some 23, _, _, _, _, _⟩) ?_); (refine Se.toL rfl (Se.ld (o := ⟨some 23, _, _, _, _, _⟩) hs rfl rfl (Cell.blk 1 rfl rfl) (by kernel_rfl) ?_))) | ((with_reducible refine Se.isL (o := ⟨some 27, _, _, _, _, _⟩) ?_); (refine Se.toL rfl (Se.ld (o := ⟨some 27, _, _, _, _, _⟩) hs rfl rfl (Cell.blk 1 rfl rfl) (by kernel_rfl) ?_))) | ((with_reducible refine Se.isL (o := ⟨some 32, _, _, _, _, _⟩) ?_); (refine Se.toL rfl (Se.ld (o := ⟨some 32, _, _, _, _, _⟩) hs rfl rfl (Cell.blk 1 rfl rfl) (by kernel_rfl) ?_))) | ((first | with_reducible refine Se.ab hs ?_ | with_reducible refine Se.abc hs ?_); clear hs; (first | ((fail_if_success (have _q := g4)); generalize w.heap.size = g4; intro w hs) | (generalize w.heap.size = g7; intro w hs))) | (go_at_call 57; refine Calls.mono (rgroup_st' hs gr HG.out) ?_; clear hs; rintro e w ⟨rfl, hs⟩) | (go_at_call 58; refine Calls.mono (wrong_st' hs i HRI.out) ?_; clear hs; rintro e w ⟨rfl, hs⟩))
        have HS : ∀ (L' : List At) (w' : World) (l8 : List Value), St w0 X (L' ++ .blk g8 59 l8 :: .blk g7 23 [.int .u8 3, .int .u8 2, .bool more, .bool never] :: .blk g4 59 [.int .i64 p.tries, .slice (some ⟨g, off, none⟩) p.l.length c] :: L) w' → Li.Blk w' g4 [.int .i64 p.tries, .slice (some ⟨g, off, none⟩) p.l.length c] 59 ∧ Li.Blk w' g7 [.int .u8 3, .int .u8 2, .bool more, .bool never] 23 := fun _ _ _ h => ⟨h.hold (.blk g4 59 _) (List.mem_append.2 (.inr (List.mem_cons_of_mem _ (List.mem_cons_of_mem _ List.mem_cons_self)))), h.hold (.blk g7 23 _) (List.mem_append.2 (.inr (List.mem_cons_of_mem _ List.mem_cons_self)))⟩
        have HS := Lib.hid HS
        refine Ch.region' 13 (fun wx => Li.Blk wx g4 [.int .i64 p.tries, .slice (some ⟨g, off, none⟩) p.l.length c] 59 ∧ Li.Blk wx g7 [.int .u8 3, .int .u8 2, .bool more, .bool never] 23) (fun | 3 => true | 7 => true | 8 => true | 11 => true | _ => false) (by kernel_rfl) (by decide +kernel) (HS.out [] _ _ hs.drew) ?_
        replace hs := hs.drew
        generalize w.drew = w at hs ⊢
        change Ch.CW _ _ _ _ _ [0, 1, 2, 3, 4, 5, 6, 7, 8, 9, 10, 11, 12] _ _
        refine Ch.pure (v := .agg #[.int .i64 p.tries, .slice (some ⟨g, off, none⟩) p.l.length c]) (by rfl) (by rfl) (by rfl) (fun wx hS => Se.xla rfl rfl (Li.Rd.of_blk hS.1) (by kernel_rfl) (by kernel_rfl)) ?_
        (try simp only [Act.put, List.setIfInBounds_toArray, List.set_cons_zero, List.set_cons_succ])
        iterate 2 (refine Ch.pure (v := ?_) (by rfl) (by rfl) (by rfl) (fun wx hS => ?_) ?_; rotate_left; (focus (go_simp; (first | done | with_reducible rfl))); (try simp only [Act.put, List.setIfInBounds_toArray, List.set_cons_zero, List.set_cons_succ]))
        refine Ch.noise (by rfl) (by rfl) (by rfl) (Se.bsv hs rfl Try.underlying91 int_info rfl [.int .i64 0, .int .i64 4, .int .i64 3, .int .i64 15] (by rfl) rfl (by decide) (by decide) (by simp [Value.oneCell']) ?_)
        clear hs
        rintro w g39 - hs
        refine ⟨HS.out [_] _ _ hs, ?_⟩
        (try simp only [Act.put, List.setIfInBounds_toArray, List.set_cons_zero, List.set_cons_succ])
        iterate 1 (refine Ch.pure (v := ?_) (by rfl) (by rfl) (by rfl) (fun wx hS => ?_) ?_; rotate_left; (focus (go_simp; (first | done | with_reducible rfl))); (try simp only [Act.put, List.setIfInBounds_toArray, List.set_cons_zero, List.set_cons_succ]))
        refine Ch.pure (v := .int .u8 2) (by rfl) (by rfl) (by rfl) (fun wx hS => Se.xl rfl rfl (hS.2.cell 1) (by kernel_rfl)) ?_
        (try simp only [Act.put, List.setIfInBounds_toArray, List.set_cons_zero, List.set_cons_succ])
        iterate 1 (refine Ch.pure (v := ?_) (by rfl) (by rfl) (by rfl) (fun wx hS => ?_) ?_; rotate_left; (focus (go_simp; (first | done | with_reducible rfl))); (try simp only [Act.put, List.setIfInBounds_toArray, List.set_cons_zero, List.set_cons_succ]))
        refine Ch.noise (by rfl) (by rfl) (by rfl) (Se.ld hs rfl rfl (Cell.blk 0 rfl rfl) (by kernel_rfl) ?_)
        refine ⟨HS.out [_] _ _ hs, ?_⟩
        (try simp only [Act.put, List.setIfInBounds_toArray, List.set_cons_zero, List.set_cons_succ])
        refine Ch.noise (by rfl) (by rfl) (by rfl) ?_
        refine Se.gcall (f := 45) (args := #[rv p (some ⟨g, off, none⟩) c, .int .i64 i, .int .i64 gr, .int .i64 3]) ?_ ?_
        · go_simp
        refine Calls.mono (rSetState_st hs (by simp only [List.mem_cons, HM.out, or_true]) HP.out i gr 3) ?_
        clear hs
        rintro e w ⟨A', c', rfl, hs⟩
        refine ⟨_, rfl, HS.out [_, _] _ _ hs, ?_⟩
        (try simp only [Act.put, List.setIfInBounds_toArray, List.set_cons_zero, List.set_cons_succ])
        iterate 2 (refine Ch.pure (v := ?_) (by rfl) (by rfl) (by rfl) (fun wx hS => ?_) ?_; rotate_left; (focus (go_simp; (first | done | with_reducible rfl))); (try simp only [Act.put, List.setIfInBounds_toArray, List.set_cons_zero, List.set_cons_succ]))
        refine Ch.noise (by rfl) (by rfl) (by rfl) (Se.sow 2 (vs := rvl (setState p i gr 3).1 A' c') hs rfl rfl rfl rfl (by simp [Value.oneCell']) (by kernel_rfl) rfl ?_)
        clear hs
        intro w hs
        simp only [List.set_cons_zero, List.set_cons_succ] at hs
        refine ⟨HS.out [_, _] _ _ hs, ?_⟩
        (try simp only [Act.put, List.setIfInBounds_toArray, List.set_cons_zero, List.set_cons_succ])
        iterate 1 (refine Ch.pure (v := ?_) (by rfl) (by rfl) (by rfl) (fun wx hS => ?_) ?_; rotate_left; (focus (go_simp; (first | done | with_reducible rfl))); (try simp only [Act.put, List.setIfInBounds_toArray, List.set_cons_zero, List.set_cons_succ]))
        refine Ch.done ?_
        simp only [List.drop_succ_cons, List.drop_zero]
        go_wp2_with fail
        refine Se.ret hs [rv _ _ _, .int .i64 (setState p i gr 3).2] rfl ⟨Se.resRow rfl (Reads.blk 2 rfl) (by kernel_rfl) (by kernel_rfl), rfl, trivial⟩ (by simp) rfl ?_
        rw [HF.out]
        exact ⟨_, _, rfl, hs.u41.drop.drop.drop.drop⟩
      · have HF := Lib.hid hf
        clear hf
        go_enter Try.func49, Try.ntmps49
        go_upto_region 8 with (first | ((with_reducible refine Se.isL (o := ⟨some 8, _, _, _, _, _⟩) ?_); (refine Se.toL rfl (Se.al (o := ⟨some 8, _, _, _, _, _⟩) hs rfl (rfl) ?_); clear hs; rintro w g8 - hs)) | ((with_reducible refine Se.isL (o := ⟨some 15, _, _, _, _, _⟩) ?_); (refine Se.toL rfl (Se.ldw (o := ⟨some 15, _, _, _, _, _⟩) hs rfl rfl ((Reads.blk 2 rfl)) ((by kernel_rfl)) (by kernel_rfl) ?_))) | ((with_reducible refine Se.isL (o := ⟨some 23, _, _, _, _, _⟩) ?_); (refine Se.toL rfl (Se.ld (o := ⟨some 23, _, _, _, _, _⟩) hs rfl rfl (Cell.blk 1 rfl rfl) (by kernel_rfl) ?_))) | ((with_reducible refine Se.isL (o := ⟨some 27, _, _, _, _, _⟩) ?_); (refine Se.toL rfl (Se.ld (o := ⟨some 27, _, _, _, _, _⟩) hs rfl rfl (Cell.blk 1 rfl rfl) (by kernel_rfl) ?_))) | ((with_reducible refine Se.isL (o := ⟨some 32, _, _, _, _, _⟩) ?_); (refine Se.toL rfl (Se.ld (o := ⟨some 32, _, _, _, _, _⟩) hs rfl rfl (Cell.blk 1 rfl rfl) (by kernel_rfl) ?_))) | ((first | with_reducible refine Se.ab hs ?_ | with_reducible refine Se.abc hs ?_); clear hs; (first | ((fail_if_success (have _q := g4)); generalize w.heap.size = g4; intro w hs) | (generalize w.heap.size = g7; intro w hs))) | (go_at_call 57; refine Calls.mono (rgroup_st' hs gr HG.out) ?_; clear hs; rintro e w ⟨rfl, hs⟩) | (go_at_call 58; refine Calls.mono (wrong_st' hs i HRI.out) ?_; clear hs; rintro e w ⟨rfl, hs⟩))
        have HS : ∀ (L' : List At) (w' : World) (l8 : List Value), St w0 X (L' ++ .blk g8 59 l8 :: .blk g7 23 [.int .u8 3, .int .u8 3, .bool more, .bool never] :: .blk g4 59 [.int .i64 p.tries, .slice (some ⟨g, off, none⟩) p.l.length c] :: L) w' → Li.Blk w' g4 [.int .i64 p.tries, .slice (some ⟨g, off, none⟩) p.l.length c] 59 ∧ Li.Blk w' g7 [.int .u8 3, .int .u8 3, .bool more, .bool never] 23 := fun _ _ _ h => ⟨h.hold (.blk g4 59 _) (List.mem_append.2 (.inr (List.mem_cons_of_mem _ (List.mem_cons_of_mem _ List.mem_cons_self)))), h.hold (.blk g7 23 _) (List.mem_append.2 (.inr (List.mem_cons_of_mem _ List.mem_cons_self)))⟩
        have HS := Lib.hid HS
        refine Ch.region' 13 (fun wx => Li.Blk wx g4 [.int .i64 p.tries, .slice (some ⟨g, off, none⟩) p.l.length c] 59 ∧ Li.Blk wx g7 [.int .u8 3, .int .u8 3, .bool more, .bool never] 23) (fun | 3 => true | 7 => true | 8 => true | 11 => true | _ => false) (by kernel_rfl) (by decide +kernel) (HS.out [] _ _ hs.drew) ?_
        replace hs := hs.drew
        generalize w.drew = w at hs ⊢
        change Ch.CW _ _ _ _ _ [0, 1, 2, 3, 4, 5, 6, 7, 8, 9, 10, 11, 12] _ _
        refine Ch.pure (v := .agg #[.int .i64 p.tries, .slice (some ⟨g, off, none⟩) p.l.length c]) (by rfl) (by rfl) (by rfl) (fun wx hS => Se.xla rfl rfl (Li.Rd.of_blk hS.1) (by kernel_rfl) (by kernel_rfl)) ?_
        (try simp only [Act.put, List.setIfInBounds_toArray, List.set_cons_zero, List.set_cons_succ])
        iterate 2 (refine Ch.pure (v := ?_) (by rfl) (by rfl) (by rfl) (fun wx hS => ?_) ?_; rotate_left; (focus (go_simp; (first | done | with_reducible rfl))); (try simp only [Act.put, List.setIfInBounds_toArray, List.set_cons_zero, List.set_cons_succ]))
        refine Ch.noise (by rfl) (by rfl) (by rfl) (Se.bsv hs rfl Try.underlying91 int_info rfl [.int .i64 0, .int .i64 4, .int .i64 3, .int .i64 15] (by rfl) rfl (by decide) (by decide) (by simp [Value.oneCell']) ?_)
        clear hs
        rintro w g39 - hs
        refine ⟨HS.out [_] _ _ hs, ?_⟩
        (try simp only [Act.put, List.setIfInBounds_toArray, List.set_cons_zero, List.set_cons_succ])
        iterate 1 (refine Ch.pure (v := ?_) (by rfl) (by rfl) (by rfl) (fun wx hS => ?_) ?_; rotate_left; (focus (go_simp; (first | done | with_reducible rfl))); (try simp only [Act.put, List.setIfInBounds_toArray, List.set_cons_zero, List.set_cons_succ]))
        refine Ch.pure (v := .int .u8 3) (by rfl) (by rfl) (by rfl) (fun wx hS => Se.xl rfl rfl (hS.2.cell 1) (by kernel_rfl)) ?_
        (try simp only [Act.put, List.setIfInBounds_toArray, List.set_cons_zero, List.set_cons_succ])
        iterate 1 (refine Ch.pure (v := ?_) (by rfl) (by rfl) (by rfl) (fun wx hS => ?_) ?_; rotate_left; (focus (go_simp; (first | done | with_reducible rfl))); (try simp only [Act.put, List.setIfInBounds_toArray, List.set_cons_zero, List.set_cons_succ]))
        refine Ch.noise (by rfl) (by rfl) (by rfl) (Se.ld hs rfl rfl (Cell.blk 0 rfl rfl) (by kernel_rfl) ?_)
        refine ⟨HS.out [_] _ _ hs, ?_⟩
        (try simp only [Act.put, List.setIfInBounds_toArray, List.set_cons_zero, List.set_cons_succ])
        refine Ch.noise (by rfl) (by rfl) (by rfl) ?_
        refine Se.gcall (f := 45) (args := #[rv p (some ⟨g, off, none⟩) c, .int .i64 i, .int .i64 gr, .int .i64 15]) ?_ ?_
        · go_simp
        refine Calls.mono (rSetState_st hs (by simp only [List.mem_cons, HM.out, or_true]) HP.out i gr 15) ?_
        clear hs
        rintro e w ⟨A', c', rfl, hs⟩
        refine ⟨_, rfl, HS.out [_, _] _ _ hs, ?_⟩
        (try simp only [Act.put, List.setIfInBounds_toArray, List.set_cons_zero, List.set_cons_succ])
        iterate 2 (refine Ch.pure (v := ?_) (by rfl) (by rfl) (by rfl) (fun wx hS => ?_) ?_; rotate_left; (focus (go_simp; (first | done | with_reducible rfl))); (try simp only [Act.put, List.setIfInBounds_toArray, List.set_cons_zero, List.set_cons_succ]))
        refine Ch.noise (by rfl) (by rfl) (by rfl) (Se.sow 2 (vs := rvl (setState p i gr 15).1 A' c') hs rfl rfl rfl rfl (by simp [Value.oneCell']) (by kernel_rfl) rfl ?_)
        clear hs
        intro w hs
        simp only [List.set_cons_zero, List.set_cons_succ] at hs
        refine ⟨HS.out [_, _] _ _ hs, ?_⟩
        (try simp only [Act.put, List.setIfInBounds_toArray, List.set_cons_zero, List.set_cons_succ])
        iterate 1 (refine Ch.pure (v := ?_) (by rfl) (by rfl) (by rfl) (fun wx hS => ?_) ?_; rotate_left; (focus (go_simp; (first | done | with_reducible rfl))); (try simp only [Act.put, List.setIfInBounds_toArray, List.set_cons_zero, List.set_cons_succ]))
        refine Ch.done ?_
        simp only [List.drop_succ_cons, List.drop_zero]
        go_wp2_with fail
        refine Se.ret hs [rv _ _ _, .int .i64 (setState p i gr 15).2] rfl ⟨Se.resRow rfl (Reads.blk 2 rfl) (by kernel_rfl) (by kernel_rfl), rfl, trivial⟩ (by simp) rfl ?_
        rw [HF.out]
        exact ⟨_, _, rfl, hs.u41.drop.drop.drop.drop⟩
    · have HRI := Lib.hid (show rng p i = 3 by unfold rng at hri ⊢; split <;> simp_all)
      have hf := Lib.hid (show learn p i gr ⟨ty, code, more, never⟩ = (p, 3) by unfold learn at'; simp [hg, HRI.out])
      clear hri hg
      go_enter Try.func49, Try.ntmps49
      go_wp2_with (first | ((with_reducible refine Se.isL (o := ⟨some 8, _, _, _, _, _⟩) ?_); (refine Se.toL rfl (Se.al (o := ⟨some 8, _, _, _, _, _⟩) hs rfl (rfl) ?_); clear hs; rintro w g8 - hs)) | ((with_reducible refine Se.isL (o := ⟨some 15, _, _, _, _, _⟩) ?_); (refine Se.toL rfl (Se.ldw (o := ⟨some 15, _, _, _, _, _⟩) hs rfl rfl ((Reads.blk 2 rfl)) ((by kernel_rfl)) (by kernel_rfl) ?_))) | ((with_reducible refine Se.isL (o := ⟨some 20, _, _, _, _, _⟩) ?_); (refine Se.toL rfl (Se.ldw (o := ⟨some 20, _, _, _, _, _⟩) hs rfl rfl ((Reads.blk 2 rfl)) ((by kernel_rfl)) (by kernel_rfl) ?_))) | ((with_reducible refine Se.isL (o := ⟨none, Op.store 59 _ _, _, _, _, _⟩) ?_); (refine Se.toL rfl (Se.sow 0 hs rfl rfl rfl rfl ((by simp [Value.oneCell'])) ((by kernel_rfl)) (rfl) ?_); clear hs; intro w hs; try simp only [List.set_cons_zero] at hs)) | ((first | with_reducible refine Se.ab hs ?_ | with_reducible refine Se.abc hs ?_); clear hs; (first | (generalize w.heap.size = g4; intro w hs))) | (go_at_call 57; refine Calls.mono (rgroup_st' hs gr HG.out) ?_; clear hs; rintro e w ⟨rfl, hs⟩) | (go_at_call 58; refine Calls.mono (wrong_st' hs i HRI.out) ?_; clear hs; rintro e w ⟨rfl, hs⟩))
      refine Se.ret hs [rv _ _ _, .int .i64 3] rfl ⟨Se.resRow rfl (Reads.blk 0 rfl) (by kernel_rfl) (by kernel_rfl), rfl, trivial⟩ (by simp) rfl ?_
      rw [hf.out]
      exact ⟨_, _, rfl, hs.drop.drop.drop.dup HM.out⟩
end Pa
end Go.Proofs.Ytplhelhijjmlaaa

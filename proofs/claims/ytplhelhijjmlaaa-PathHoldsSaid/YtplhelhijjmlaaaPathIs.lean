/- Layer 45: over and is, for paths in the state of the specification. -/
import Derived.Test.YtplhelhijjmlaaaPathActs
set_option linter.unusedSimpArgs false
set_option linter.unusedVariables false
namespace Go.Proofs.Ytplhelhijjmlaaa
open Go Go.RowKit
namespace Pa
open Se (St At Reads Cell)
attribute [local irreducible] Calls
variable {w0 w : World} {X : List Nat} {L : List At} {A : Option Addr} {D g off c c1 : Nat} {p q : PP}
theorem each_ok (hp : OkP p) (L' : List At) : EachOk w0 X (L' ++ (pD D (some ⟨g, off, none⟩) c p :: pG g off c p :: L)) (.pointer (some ⟨D, 0, none⟩)) p.l.length (fun i => p.l.getD i dead) := by
  intro w hs
  have p1 : (L' ++ (pD D (some ⟨g, off, none⟩) c p :: pG g off c p :: L)).Perm (pD D (some ⟨g, off, none⟩) c p :: pG g off c p :: (L' ++ L)) :=
    List.perm_middle.trans (List.Perm.cons _ List.perm_middle)
  refine (each_st (hs.perm p1) hp).mono ?_
  rintro e w' ⟨b, D', g', off', c', he, hs'⟩
  exact ⟨b, eachM D' g' off' c' b p, he, each1_seq b hp, hs'.perm (List.Perm.append_left _ p1.symm)⟩
theorem over_st (hs : St w0 X (pD D (some ⟨g, off, none⟩) c1 (mapP q) :: pG g off c1 (mapP q) :: L) w) (hm : At.rd A (cells q.l) ∈ L) (hq : OkP q) (many : Int) :
    Calls Try.prog 31 #[.pointer (some ⟨D, 0, none⟩), rv q A c, .int .i64 many] w fun e w' => e = .returned (.bool true) ∧ St w0 X (pD D (some ⟨g, off, none⟩) c1 (mapP q) :: pG g off c1 (mapP q) :: L) w' :=
  over_gen hs (List.mem_cons_of_mem _ (List.mem_cons_of_mem _ hm)) (each_ok hq.map) hq.map.n1 hq.map.n2 hq (mapP_len q).symm (fun i hi => by
    rw [mapP_len] at hi
    rw [show (mapP q).l = q.l.map h1 from rfl, getD_map q.l hi]
    exact ⟨rfl, rfl⟩) many
theorem len_st' (hs : St w0 X (pD D (some ⟨g, off, none⟩) c1 (mapP q) :: pG g off c1 (mapP q) :: L) w) (hq : OkP q) :
    Calls Try.prog 29 #[.pointer (some ⟨D, 0, none⟩)] w fun e w' => e = .returned (.int .i64 q.l.length) ∧ St w0 X (pD D (some ⟨g, off, none⟩) c1 (mapP q) :: pG g off c1 (mapP q) :: L) w' := by
  have := len_st hs hq.map
  rwa [mapP_len] at this
set_option maxRecDepth 100000 in
set_option maxHeartbeats 8000000 in
theorem is_st (hs : St w0 X (pD D (some ⟨g, off, none⟩) c1 (mapP q) :: pG g off c1 (mapP q) :: L) w) (hm : At.rd A (cells q.l) ∈ L) (hq : OkP q) (i gr many : Int) :
    Calls Try.prog 27 #[.pointer (some ⟨D, 0, none⟩), rv q A c, .int .i64 i, .int .i64 gr, .int .i64 many] w fun e w' => e = .returned (.bool true) ∧ St w0 X (pD D (some ⟨g, off, none⟩) c1 (mapP q) :: pG g off c1 (mapP q) :: L) w' := by
  have HM := Lib.hid hm
  have HQ := Lib.hid hq
  have HQm := Lib.hid hq.map
  clear hm hq
  obtain ⟨n, y, hy⟩ : ∃ n y, state q i gr = (n, y) := ⟨_, _, rfl⟩
  have H1 := Lib.hid hy
  have H2 := Lib.hid (show state (mapP q) i gr = (n, y) by rw [state_map, hy])
  clear hy
  obtain ⟨k, z, hy⟩ : ∃ k z, pick q gr = (k, z) := ⟨_, _, rfl⟩
  have H3 := Lib.hid hy
  have H4 := Lib.hid (show pick (mapP q) gr = (k, z) by rw [pick_map, hy])
  clear hy
  go_enter Try.func27, Try.ntmps27
  go_upto_region 4 with (first | ((with_reducible refine Se.isL (o := ⟨some 18, _, _, _, _, _⟩) ?_); (refine Se.toL rfl (Se.ldw (o := ⟨some 18, _, _, _, _, _⟩) hs rfl rfl ((Reads.blk 0 rfl)) ((by kernel_rfl)) (by kernel_rfl) ?_))) | ((with_reducible refine Se.isL (o := ⟨some 32, _, _, _, _, _⟩) ?_); (refine Se.toL rfl (Se.ldw (o := ⟨some 32, _, _, _, _, _⟩) hs rfl rfl ((Reads.blk 2 rfl)) ((by kernel_rfl)) (by kernel_rfl) ?_))) | ((first | with_reducible refine Se.ab hs ?_ | with_reducible refine Se.abc hs ?_); clear hs; (first | (generalize w.heap.size = g6; intro w hs))) | (go_at_call 52; refine Calls.mono (rState_st' hs (by simp only [List.mem_cons, HM.out, or_true]) HQ.out i gr H1.out) ?_; clear hs; rintro e w ⟨rfl, hs⟩) | (go_at_call 22; refine Calls.mono (state_st' hs.u21 HQm.out i gr H2.out) ?_; clear hs; rintro e w ⟨rfl, hs⟩) | (go_at_call 51; refine Calls.mono (rPick_st' hs (by simp only [List.mem_cons, HM.out, or_true]) HQ.out gr H3.out) ?_; clear hs; rintro e w ⟨rfl, hs⟩))
  refine Ch.region' 30 (fun wx => Li.Blk wx g6 [.int .i64 q.tries, .slice A q.l.length c] 59) (fun | 1 => true | 13 => true | 22 => true | 28 => true | _ => false) (by kernel_rfl) (by decide +kernel) (hs.hold (.blk g6 59 [.int .i64 q.tries, .slice A q.l.length c]) (by simp)) ?_
  replace hs := hs.drew
  generalize w.drew = w at hs ⊢
  change Ch.CW _ _ _ _ _ [0, 1, 2, 3, 4, 5, 6, 7, 8, 9, 10, 11, 12, 13, 14, 15, 16, 17, 18, 19, 20, 21, 22, 23, 24, 25, 26, 27, 28, 29] _ _
  iterate 1 (refine Ch.pure (v := ?_) (by rfl) (by rfl) (by rfl) (fun wx hS => ?_) ?_; rotate_left; (focus (go_simp; (first | done | with_reducible rfl))); (try simp only [Act.put, List.setIfInBounds_toArray, List.set_cons_zero, List.set_cons_succ]))
  refine Ch.noise (by rfl) (by rfl) (by rfl) ?_
  refine Se.gcall (f := 29) (args := #[.pointer (some ⟨D, 0, none⟩)]) ?_ ?_
  · go_simp
  refine Calls.mono (len_st' hs HQ.out) ?_
  clear hs
  rintro e w ⟨rfl, hs⟩
  refine ⟨_, rfl, hs.hold (.blk g6 59 [.int .i64 q.tries, .slice A q.l.length c]) (by simp), ?_⟩
  (try simp only [Act.put, List.setIfInBounds_toArray, List.set_cons_zero, List.set_cons_succ])
  iterate 11 ((first | (refine Ch.pure (v := ?_) (by rfl) (by rfl) (by rfl) (fun wx hS => ?_) ?_; rotate_left; (focus (go_simp; (first | done | with_reducible rfl)))) | refine Ch.pure (v := _) (by rfl) (by rfl) (by rfl) (fun wx hS => Se.xl rfl rfl (by rw [(hS).cell]; rfl) (by decide +kernel)) ?_); (try simp only [Act.put, List.setIfInBounds_toArray, List.set_cons_zero, List.set_cons_succ]))
  refine Ch.noise (by rfl) (by rfl) (by rfl) ?_
  refine Se.gcall (f := 13) (args := #[.int .i64 y]) ?_ ?_
  · go_simp
  refine Calls.mono (num_st hs _) ?_
  clear hs
  rintro e w ⟨rfl, hs⟩
  refine ⟨_, rfl, hs.hold (.blk g6 59 [.int .i64 q.tries, .slice A q.l.length c]) (by simp), ?_⟩
  (try simp only [Act.put, List.setIfInBounds_toArray, List.set_cons_zero, List.set_cons_succ])
  iterate 8 ((first | (refine Ch.pure (v := ?_) (by rfl) (by rfl) (by rfl) (fun wx hS => ?_) ?_; rotate_left; (focus (go_simp; (first | done | with_reducible rfl)))) | refine Ch.pure (v := _) (by rfl) (by rfl) (by rfl) (fun wx hS => Se.xl rfl rfl (by rw [(hS).cell]; rfl) (by decide +kernel)) ?_); (try simp only [Act.put, List.setIfInBounds_toArray, List.set_cons_zero, List.set_cons_succ]))
  refine Ch.noise (by rfl) (by rfl) (by rfl) ?_
  refine Se.gcall (f := 16) (args := #[.pointer (some ⟨D, 0, none⟩), .int .i64 gr, .int .i64 k, .int .i64 z]) ?_ ?_
  · go_simp
  refine Calls.mono (picks_t hs HQm.out gr H4.out) ?_
  clear hs
  rintro e w ⟨rfl, hs⟩
  refine ⟨_, rfl, hs.hold (.blk g6 59 [.int .i64 q.tries, .slice A q.l.length c]) (by simp), ?_⟩
  (try simp only [Act.put, List.setIfInBounds_toArray, List.set_cons_zero, List.set_cons_succ])
  iterate 5 ((first | (refine Ch.pure (v := ?_) (by rfl) (by rfl) (by rfl) (fun wx hS => ?_) ?_; rotate_left; (focus (go_simp; (first | done | with_reducible rfl)))) | refine Ch.pure (v := _) (by rfl) (by rfl) (by rfl) (fun wx hS => Se.xla rfl rfl (Li.Rd.of_blk (hS)) (by kernel_rfl) (by decide +kernel)) ?_); (try simp only [Act.put, List.setIfInBounds_toArray, List.set_cons_zero, List.set_cons_succ]))
  refine Ch.noise (by rfl) (by rfl) (by rfl) ?_
  refine Se.gcall (f := 31) (args := #[.pointer (some ⟨D, 0, none⟩), rv q A c, .int .i64 many]) ?_ ?_
  · go_simp
  refine Calls.mono (over_st hs (by simp only [List.mem_cons, HM.out, or_true]) HQ.out many) ?_
  clear hs
  rintro e w ⟨rfl, hs⟩
  refine ⟨_, rfl, hs.hold (.blk g6 59 [.int .i64 q.tries, .slice A q.l.length c]) (by simp), ?_⟩
  (try simp only [Act.put, List.setIfInBounds_toArray, List.set_cons_zero, List.set_cons_succ])
  iterate 1 (refine Ch.pure (v := ?_) (by rfl) (by rfl) (by rfl) (fun wx hS => ?_) ?_; rotate_left; (focus (go_simp; (first | done | with_reducible rfl))); (try simp only [Act.put, List.setIfInBounds_toArray, List.set_cons_zero, List.set_cons_succ]))
  refine Ch.done ?_
  simp only [List.drop_succ_cons, List.drop_zero]
  go_wp2_with fail
  go_ret
  exact ⟨rfl, hs.u12.drop⟩
end Pa
end Go.Proofs.Ytplhelhijjmlaaa

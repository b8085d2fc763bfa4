/- Layer 45: act: a call on both, walked. Printed by wip/gen_act.py. -/
import Derived.Test.YtplhelhijjmlaaaPathActs
set_option linter.unusedSimpArgs false
set_option linter.unusedVariables false
namespace Go.Proofs.Ytplhelhijjmlaaa
open Go Go.RowKit
namespace Pa
open Se (St At Reads Cell)
variable {w0 w : World} {X : List Nat} {L : List At} {A : Option Addr} {D g off c c1 : Nat} {q : PP}
attribute [local irreducible] Calls
set_option maxRecDepth 100000 in
set_option maxHeartbeats 8000000 in
theorem act_0 (hs : St w0 X (pD D (some ⟨g, off, none⟩) c1 (mapP q) :: pG g off c1 (mapP q) :: L) w) (hm : At.rd A (cells q.l) ∈ L) (hq : OkP q) (i gr sta by' tr ty code : Int) (more never : Bool) (hS : okSt ⟨ty, code, more, never⟩) :
    Calls Try.prog 26 #[.pointer (some ⟨D, 0, none⟩), rv q A c, .agg #[.int .i64 0, .int .i64 i, .int .i64 gr, .int .i64 sta, .int .i64 by', .int .i64 tr, .int .u8 ty, .int .u8 code, .bool more, .bool never]] w fun e w' => ∃ D' g' off' c1' A' c', e = .returned (.tuple #[.pointer (some ⟨D', 0, none⟩), rv ((setState q i gr sta).1) A' c', .bool true]) ∧ St w0 X (pD D' (some ⟨g', off', none⟩) c1' (mapP ((setState q i gr sta).1)) :: pG g' off' c1' (mapP ((setState q i gr sta).1)) :: .rd A' (cells ((setState q i gr sta).1).l) :: L) w' := by
  have HM := Lib.hid hm
  have HQ := Lib.hid hq
  have HQm := Lib.hid hq.map
  have HS := Lib.hid hS
  clear hm hq hS
  obtain ⟨q', y, hy⟩ : ∃ q' y, setState q i gr sta = (q', y) := ⟨_, _, rfl⟩
  have H1 := Lib.hid hy
  have H2 := Lib.hid (show setState (mapP q) i gr sta = (mapP q', y) by rw [setState_map, hy])
  rw [hy]
  clear hy
  go_enter Try.func26, Try.ntmps26
  go_upto_region 5 with (first | ((with_reducible refine Se.isL (o := ⟨some 7, _, _, _, _, _⟩) ?_); (refine Se.toL rfl (Se.al (o := ⟨some 7, _, _, _, _, _⟩) hs rfl (rfl) ?_); clear hs; rintro w g7 - hs)) | ((with_reducible refine Se.isL (o := ⟨some 32, _, _, _, _, _⟩) ?_); (refine Se.toL rfl (Se.ld (o := ⟨some 32, _, _, _, _, _⟩) hs rfl rfl (Cell.blk 1 rfl rfl) (by kernel_rfl) ?_))) | ((with_reducible refine Se.isL (o := ⟨some 37, _, _, _, _, _⟩) ?_); (refine Se.toL rfl (Se.ldw (o := ⟨some 37, _, _, _, _, _⟩) hs rfl rfl ((Reads.blk 2 rfl)) ((by kernel_rfl)) (by kernel_rfl) ?_))) | ((with_reducible refine Se.isL (o := ⟨some 39, _, _, _, _, _⟩) ?_); (refine Se.toL rfl (Se.ld (o := ⟨some 39, _, _, _, _, _⟩) hs rfl rfl (Cell.blk 1 rfl rfl) (by kernel_rfl) ?_))) | ((with_reducible refine Se.isL (o := ⟨some 41, _, _, _, _, _⟩) ?_); (refine Se.toL rfl (Se.ld (o := ⟨some 41, _, _, _, _, _⟩) hs rfl rfl (Cell.blk 1 rfl rfl) (by kernel_rfl) ?_))) | ((with_reducible refine Se.isL (o := ⟨some 43, _, _, _, _, _⟩) ?_); (refine Se.toL rfl (Se.ld (o := ⟨some 43, _, _, _, _, _⟩) hs rfl rfl (Cell.blk 1 rfl rfl) (by kernel_rfl) ?_))) | ((with_reducible refine Se.isL (o := ⟨some 9, _, _, _, _, _⟩) ?_); (refine Se.toL rfl (Se.al (o := ⟨some 9, _, _, _, _, _⟩) hs rfl (rfl) ?_); clear hs; rintro w g9 - hs)) | ((with_reducible refine Se.isL (o := ⟨none, Op.store 59 _ _, _, _, _, _⟩) ?_); (refine Se.toL rfl (Se.sow 0 hs rfl rfl rfl rfl ((by simp [Value.oneCell'])) ((by kernel_rfl)) (rfl) ?_); clear hs; intro w hs; try simp only [List.set_cons_zero] at hs)) | ((first | with_reducible refine Se.ab hs ?_ | with_reducible refine Se.abc hs ?_); clear hs; (first | ((fail_if_success (have _q := g4)); generalize w.heap.size = g4; intro w hs) | (generalize w.heap.size = g5; intro w hs))) | (go_at_call 45; refine Calls.mono (rSetState_st' hs (by simp only [List.mem_cons, HM.out, or_true]) HQ.out i gr sta H1.out) ?_; clear hs; rintro e w ⟨A', c', rfl, hs⟩))
  refine Ch.region' 16 (fun wx => Li.Blk wx g9 [.int .i64 q'.tries, .slice A' q'.l.length c'] 59 ∧ Li.Blk wx g5 [.int .i64 0, .int .i64 i, .int .i64 gr, .int .i64 sta, .int .i64 by', .int .i64 tr, .int .u8 ty, .int .u8 code, .bool more, .bool never] 43) (fun | 9 => true | 10 => true | 14 => true | _ => false) (by kernel_rfl) (by decide +kernel) (⟨hs.hold (.blk g9 59 [.int .i64 q'.tries, .slice A' q'.l.length c']) (by simp), hs.hold (.blk g5 43 [.int .i64 0, .int .i64 i, .int .i64 gr, .int .i64 sta, .int .i64 by', .int .i64 tr, .int .u8 ty, .int .u8 code, .bool more, .bool never]) (by simp)⟩) ?_
  replace hs := hs.drew
  generalize w.drew = w at hs ⊢
  change Ch.CW _ _ _ _ _ [0, 1, 2, 3, 4, 5, 6, 7, 8, 9, 10, 11, 12, 13, 14, 15] _ _
  iterate 9 ((first | (refine Ch.pure (v := ?_) (by rfl) (by rfl) (by rfl) (fun wx hS => ?_) ?_; rotate_left; (focus (go_simp; (first | done | with_reducible rfl)))) | refine Ch.pure (v := _) (by rfl) (by rfl) (by rfl) (fun wx hS => Se.xla rfl rfl (Li.Rd.of_blk (hS.1)) (by kernel_rfl) (by decide +kernel)) ?_ | refine Ch.pure (v := _) (by rfl) (by rfl) (by rfl) (fun wx hS => Se.xl rfl rfl (by rw [(hS.2).cell]; rfl) (by decide +kernel)) ?_); (try simp only [Act.put, List.setIfInBounds_toArray, List.set_cons_zero, List.set_cons_succ]))
  refine Ch.noise (by rfl) (by rfl) (by rfl) ?_
  refine Se.gcall (f := 15) (args := #[.pointer (some ⟨D, 0, none⟩), .int .i64 i, .int .i64 gr, .int .i64 sta]) ?_ ?_
  · go_simp
  refine Calls.mono (setState_st' hs.u25 HQm.out i gr sta H2.out) ?_
  clear hs
  rintro e w ⟨rfl, hs⟩
  refine ⟨_, rfl, ⟨hs.hold (.blk g9 59 [.int .i64 q'.tries, .slice A' q'.l.length c']) (by simp), hs.hold (.blk g5 43 [.int .i64 0, .int .i64 i, .int .i64 gr, .int .i64 sta, .int .i64 by', .int .i64 tr, .int .u8 ty, .int .u8 code, .bool more, .bool never]) (by simp)⟩, ?_⟩
  (try simp only [Act.put, List.setIfInBounds_toArray, List.set_cons_zero, List.set_cons_succ])
  refine Ch.noise (by rfl) (by rfl) (by rfl) ?_
  refine Se.gcall (f := 13) (args := #[.int .i64 y]) ?_ ?_
  · go_simp
  refine Calls.mono (num_st hs _) ?_
  clear hs
  rintro e w ⟨rfl, hs⟩
  refine ⟨_, rfl, ⟨hs.hold (.blk g9 59 [.int .i64 q'.tries, .slice A' q'.l.length c']) (by simp), hs.hold (.blk g5 43 [.int .i64 0, .int .i64 i, .int .i64 gr, .int .i64 sta, .int .i64 by', .int .i64 tr, .int .u8 ty, .int .u8 code, .bool more, .bool never]) (by simp)⟩, ?_⟩
  (try simp only [Act.put, List.setIfInBounds_toArray, List.set_cons_zero, List.set_cons_succ])
  iterate 2 (refine Ch.pure (v := ?_) (by rfl) (by rfl) (by rfl) (fun wx hS => ?_) ?_; rotate_left; (focus (go_simp; (first | done | with_reducible rfl))); (try simp only [Act.put, List.setIfInBounds_toArray, List.set_cons_zero, List.set_cons_succ]))
  iterate 1 (refine Ch.pure (v := ?_) (by rfl) (by rfl) (by rfl) (fun wx hS => ?_) ?_; rotate_left; (focus (go_simp; (first | done | with_reducible rfl))); (try simp only [Act.put, List.setIfInBounds_toArray, List.set_cons_zero, List.set_cons_succ]))
  refine Ch.noise (by rfl) (by rfl) (by rfl) (Se.sow 4 (vs := [.int .i64 q'.tries, .slice A' q'.l.length c']) hs rfl rfl rfl rfl (by simp [Value.oneCell']) (by kernel_rfl) rfl ?_)
  clear hs
  intro w hs
  simp only [List.set_cons_zero, List.set_cons_succ] at hs
  refine ⟨⟨hs.hold (.blk g9 59 [.int .i64 q'.tries, .slice A' q'.l.length c']) (by simp), hs.hold (.blk g5 43 [.int .i64 0, .int .i64 i, .int .i64 gr, .int .i64 sta, .int .i64 by', .int .i64 tr, .int .u8 ty, .int .u8 code, .bool more, .bool never]) (by simp)⟩, ?_⟩
  (try simp only [Act.put, List.setIfInBounds_toArray, List.set_cons_zero, List.set_cons_succ])
  iterate 1 (refine Ch.pure (v := ?_) (by rfl) (by rfl) (by rfl) (fun wx hS => ?_) ?_; rotate_left; (focus (go_simp; (first | done | with_reducible rfl))); (try simp only [Act.put, List.setIfInBounds_toArray, List.set_cons_zero, List.set_cons_succ]))
  refine Ch.done ?_
  simp only [List.drop_succ_cons, List.drop_zero]
  go_wp2_with fail
  refine Se.ret hs [.pointer _, rv _ _ _, .bool true] rfl ⟨rfl, Se.resRow rfl (Reads.blk 4 rfl) (by kernel_rfl) (by kernel_rfl), rfl, trivial⟩ (by simp) rfl ?_
  exact ⟨_, _, _, _, A', c', rfl, hs.sub (by repeat (first | exact List.Sublist.refl _ | refine List.Sublist.cons_cons _ ?_ | refine List.Sublist.cons _ ?_))⟩
set_option maxRecDepth 100000 in
set_option maxHeartbeats 8000000 in
theorem act_1 (hs : St w0 X (pD D (some ⟨g, off, none⟩) c1 (mapP q) :: pG g off c1 (mapP q) :: L) w) (hm : At.rd A (cells q.l) ∈ L) (hq : OkP q) (i gr sta by' tr ty code : Int) (more never : Bool) (hS : okSt ⟨ty, code, more, never⟩) :
    Calls Try.prog 26 #[.pointer (some ⟨D, 0, none⟩), rv q A c, .agg #[.int .i64 1, .int .i64 i, .int .i64 gr, .int .i64 sta, .int .i64 by', .int .i64 tr, .int .u8 ty, .int .u8 code, .bool more, .bool never]] w fun e w' => ∃ D' g' off' c1' A' c', e = .returned (.tuple #[.pointer (some ⟨D', 0, none⟩), rv ((setState q i gr sta).1) A' c', .bool true]) ∧ St w0 X (pD D' (some ⟨g', off', none⟩) c1' (mapP ((setState q i gr sta).1)) :: pG g' off' c1' (mapP ((setState q i gr sta).1)) :: .rd A' (cells ((setState q i gr sta).1).l) :: L) w' := by
  have HM := Lib.hid hm
  have HQ := Lib.hid hq
  have HQm := Lib.hid hq.map
  have HS := Lib.hid hS
  clear hm hq hS
  obtain ⟨q', y, hy⟩ : ∃ q' y, setState q i gr sta = (q', y) := ⟨_, _, rfl⟩
  have H1 := Lib.hid hy
  have H2 := Lib.hid (show setState (mapP q) i gr sta = (mapP q', y) by rw [setState_map, hy])
  rw [hy]
  clear hy
  go_enter Try.func26, Try.ntmps26
  go_upto_region 5 with (first | ((with_reducible refine Se.isL (o := ⟨some 7, _, _, _, _, _⟩) ?_); (refine Se.toL rfl (Se.al (o := ⟨some 7, _, _, _, _, _⟩) hs rfl (rfl) ?_); clear hs; rintro w g7 - hs)) | ((with_reducible refine Se.isL (o := ⟨some 32, _, _, _, _, _⟩) ?_); (refine Se.toL rfl (Se.ld (o := ⟨some 32, _, _, _, _, _⟩) hs rfl rfl (Cell.blk 1 rfl rfl) (by kernel_rfl) ?_))) | ((with_reducible refine Se.isL (o := ⟨some 37, _, _, _, _, _⟩) ?_); (refine Se.toL rfl (Se.ldw (o := ⟨some 37, _, _, _, _, _⟩) hs rfl rfl ((Reads.blk 2 rfl)) ((by kernel_rfl)) (by kernel_rfl) ?_))) | ((with_reducible refine Se.isL (o := ⟨some 39, _, _, _, _, _⟩) ?_); (refine Se.toL rfl (Se.ld (o := ⟨some 39, _, _, _, _, _⟩) hs rfl rfl (Cell.blk 1 rfl rfl) (by kernel_rfl) ?_))) | ((with_reducible refine Se.isL (o := ⟨some 41, _, _, _, _, _⟩) ?_); (refine Se.toL rfl (Se.ld (o := ⟨some 41, _, _, _, _, _⟩) hs rfl rfl (Cell.blk 1 rfl rfl) (by kernel_rfl) ?_))) | ((with_reducible refine Se.isL (o := ⟨some 43, _, _, _, _, _⟩) ?_); (refine Se.toL rfl (Se.ld (o := ⟨some 43, _, _, _, _, _⟩) hs rfl rfl (Cell.blk 1 rfl rfl) (by kernel_rfl) ?_))) | ((with_reducible refine Se.isL (o := ⟨some 9, _, _, _, _, _⟩) ?_); (refine Se.toL rfl (Se.al (o := ⟨some 9, _, _, _, _, _⟩) hs rfl (rfl) ?_); clear hs; rintro w g9 - hs)) | ((with_reducible refine Se.isL (o := ⟨none, Op.store 59 _ _, _, _, _, _⟩) ?_); (refine Se.toL rfl (Se.sow 0 hs rfl rfl rfl rfl ((by simp [Value.oneCell'])) ((by kernel_rfl)) (rfl) ?_); clear hs; intro w hs; try simp only [List.set_cons_zero] at hs)) | ((first | with_reducible refine Se.ab hs ?_ | with_reducible refine Se.abc hs ?_); clear hs; (first | ((fail_if_success (have _q := g4)); generalize w.heap.size = g4; intro w hs) | (generalize w.heap.size = g5; intro w hs))) | (go_at_call 45; refine Calls.mono (rSetState_st' hs (by simp only [List.mem_cons, HM.out, or_true]) HQ.out i gr sta H1.out) ?_; clear hs; rintro e w ⟨A', c', rfl, hs⟩))
  refine Ch.region' 16 (fun wx => Li.Blk wx g9 [.int .i64 q'.tries, .slice A' q'.l.length c'] 59 ∧ Li.Blk wx g5 [.int .i64 1, .int .i64 i, .int .i64 gr, .int .i64 sta, .int .i64 by', .int .i64 tr, .int .u8 ty, .int .u8 code, .bool more, .bool never] 43) (fun | 9 => true | 10 => true | 14 => true | _ => false) (by kernel_rfl) (by decide +kernel) (⟨hs.hold (.blk g9 59 [.int .i64 q'.tries, .slice A' q'.l.length c']) (by simp), hs.hold (.blk g5 43 [.int .i64 1, .int .i64 i, .int .i64 gr, .int .i64 sta, .int .i64 by', .int .i64 tr, .int .u8 ty, .int .u8 code, .bool more, .bool never]) (by simp)⟩) ?_
  replace hs := hs.drew
  generalize w.drew = w at hs ⊢
  change Ch.CW _ _ _ _ _ [0, 1, 2, 3, 4, 5, 6, 7, 8, 9, 10, 11, 12, 13, 14, 15] _ _
  iterate 9 ((first | (refine Ch.pure (v := ?_) (by rfl) (by rfl) (by rfl) (fun wx hS => ?_) ?_; rotate_left; (focus (go_simp; (first | done | with_reducible rfl)))) | refine Ch.pure (v := _) (by rfl) (by rfl) (by rfl) (fun wx hS => Se.xla rfl rfl (Li.Rd.of_blk (hS.1)) (by kernel_rfl) (by decide +kernel)) ?_ | refine Ch.pure (v := _) (by rfl) (by rfl) (by rfl) (fun wx hS => Se.xl rfl rfl (by rw [(hS.2).cell]; rfl) (by decide +kernel)) ?_); (try simp only [Act.put, List.setIfInBounds_toArray, List.set_cons_zero, List.set_cons_succ]))
  refine Ch.noise (by rfl) (by rfl) (by rfl) ?_
  refine Se.gcall (f := 15) (args := #[.pointer (some ⟨D, 0, none⟩), .int .i64 i, .int .i64 gr, .int .i64 sta]) ?_ ?_
  · go_simp
  refine Calls.mono (setState_st' hs.u25 HQm.out i gr sta H2.out) ?_
  clear hs
  rintro e w ⟨rfl, hs⟩
  refine ⟨_, rfl, ⟨hs.hold (.blk g9 59 [.int .i64 q'.tries, .slice A' q'.l.length c']) (by simp), hs.hold (.blk g5 43 [.int .i64 1, .int .i64 i, .int .i64 gr, .int .i64 sta, .int .i64 by', .int .i64 tr, .int .u8 ty, .int .u8 code, .bool more, .bool never]) (by simp)⟩, ?_⟩
  (try simp only [Act.put, List.setIfInBounds_toArray, List.set_cons_zero, List.set_cons_succ])
  refine Ch.noise (by rfl) (by rfl) (by rfl) ?_
  refine Se.gcall (f := 13) (args := #[.int .i64 y]) ?_ ?_
  · go_simp
  refine Calls.mono (num_st hs _) ?_
  clear hs
  rintro e w ⟨rfl, hs⟩
  refine ⟨_, rfl, ⟨hs.hold (.blk g9 59 [.int .i64 q'.tries, .slice A' q'.l.length c']) (by simp), hs.hold (.blk g5 43 [.int .i64 1, .int .i64 i, .int .i64 gr, .int .i64 sta, .int .i64 by', .int .i64 tr, .int .u8 ty, .int .u8 code, .bool more, .bool never]) (by simp)⟩, ?_⟩
  (try simp only [Act.put, List.setIfInBounds_toArray, List.set_cons_zero, List.set_cons_succ])
  iterate 2 (refine Ch.pure (v := ?_) (by rfl) (by rfl) (by rfl) (fun wx hS => ?_) ?_; rotate_left; (focus (go_simp; (first | done | with_reducible rfl))); (try simp only [Act.put, List.setIfInBounds_toArray, List.set_cons_zero, List.set_cons_succ]))
  iterate 1 (refine Ch.pure (v := ?_) (by rfl) (by rfl) (by rfl) (fun wx hS => ?_) ?_; rotate_left; (focus (go_simp; (first | done | with_reducible rfl))); (try simp only [Act.put, List.setIfInBounds_toArray, List.set_cons_zero, List.set_cons_succ]))
  refine Ch.noise (by rfl) (by rfl) (by rfl) (Se.sow 4 (vs := [.int .i64 q'.tries, .slice A' q'.l.length c']) hs rfl rfl rfl rfl (by simp [Value.oneCell']) (by kernel_rfl) rfl ?_)
  clear hs
  intro w hs
  simp only [List.set_cons_zero, List.set_cons_succ] at hs
  refine ⟨⟨hs.hold (.blk g9 59 [.int .i64 q'.tries, .slice A' q'.l.length c']) (by simp), hs.hold (.blk g5 43 [.int .i64 1, .int .i64 i, .int .i64 gr, .int .i64 sta, .int .i64 by', .int .i64 tr, .int .u8 ty, .int .u8 code, .bool more, .bool never]) (by simp)⟩, ?_⟩
  (try simp only [Act.put, List.setIfInBounds_toArray, List.set_cons_zero, List.set_cons_succ])
  iterate 1 (refine Ch.pure (v := ?_) (by rfl) (by rfl) (by rfl) (fun wx hS => ?_) ?_; rotate_left; (focus (go_simp; (first | done | with_reducible rfl))); (try simp only [Act.put, List.setIfInBounds_toArray, List.set_cons_zero, List.set_cons_succ]))
  refine Ch.done ?_
  simp only [List.drop_succ_cons, List.drop_zero]
  go_wp2_with fail
  refine Se.ret hs [.pointer _, rv _ _ _, .bool true] rfl ⟨rfl, Se.resRow rfl (Reads.blk 4 rfl) (by kernel_rfl) (by kernel_rfl), rfl, trivial⟩ (by simp) rfl ?_
  exact ⟨_, _, _, _, A', c', rfl, hs.sub (by repeat (first | exact List.Sublist.refl _ | refine List.Sublist.cons_cons _ ?_ | refine List.Sublist.cons _ ?_))⟩
set_option maxRecDepth 100000 in
set_option maxHeartbeats 8000000 in
theorem act_2 (hs : St w0 X (pD D (some ⟨g, off, none⟩) c1 (mapP q) :: pG g off c1 (mapP q) :: L) w) (hm : At.rd A (cells q.l) ∈ L) (hq : OkP q) (i gr sta by' tr ty code : Int) (more never : Bool) (hS : okSt ⟨ty, code, more, never⟩) :
    Calls Try.prog 26 #[.pointer (some ⟨D, 0, none⟩), rv q A c, .agg #[.int .i64 2, .int .i64 i, .int .i64 gr, .int .i64 sta, .int .i64 by', .int .i64 tr, .int .u8 ty, .int .u8 code, .bool more, .bool never]] w fun e w' => ∃ D' g' off' c1' A' c', e = .returned (.tuple #[.pointer (some ⟨D', 0, none⟩), rv ((turn q i true).1) A' c', .bool true]) ∧ St w0 X (pD D' (some ⟨g', off', none⟩) c1' (mapP ((turn q i true).1)) :: pG g' off' c1' (mapP ((turn q i true).1)) :: .rd A' (cells ((turn q i true).1).l) :: L) w' := by
  have HM := Lib.hid hm
  have HQ := Lib.hid hq
  have HQm := Lib.hid hq.map
  have HS := Lib.hid hS
  clear hm hq hS
  obtain ⟨q', m, y, hy⟩ : ∃ q' m y, turn q i true = (q', m, y) := ⟨_, _, _, rfl⟩
  have H1 := Lib.hid hy
  have H2 := Lib.hid (show turn (mapP q) i true = (mapP q', m, y) by rw [turn_map, hy])
  rw [hy]
  clear hy
  go_enter Try.func26, Try.ntmps26
  go_upto_region 8 with (first | ((with_reducible refine Se.isL (o := ⟨some 7, _, _, _, _, _⟩) ?_); (refine Se.toL rfl (Se.al (o := ⟨some 7, _, _, _, _, _⟩) hs rfl (rfl) ?_); clear hs; rintro w g7 - hs)) | ((with_reducible refine Se.isL (o := ⟨some 32, _, _, _, _, _⟩) ?_); (refine Se.toL rfl (Se.ld (o := ⟨some 32, _, _, _, _, _⟩) hs rfl rfl (Cell.blk 1 rfl rfl) (by kernel_rfl) ?_))) | ((with_reducible refine Se.isL (o := ⟨some 63, _, _, _, _, _⟩) ?_); (refine Se.toL rfl (Se.ldw (o := ⟨some 63, _, _, _, _, _⟩) hs rfl rfl ((Reads.blk 2 rfl)) ((by kernel_rfl)) (by kernel_rfl) ?_))) | ((with_reducible refine Se.isL (o := ⟨some 65, _, _, _, _, _⟩) ?_); (refine Se.toL rfl (Se.ld (o := ⟨some 65, _, _, _, _, _⟩) hs rfl rfl (Cell.blk 1 rfl rfl) (by kernel_rfl) ?_))) | ((with_reducible refine Se.isL (o := ⟨some 11, _, _, _, _, _⟩) ?_); (refine Se.toL rfl (Se.al (o := ⟨some 11, _, _, _, _, _⟩) hs rfl (rfl) ?_); clear hs; rintro w g11 - hs)) | ((with_reducible refine Se.isL (o := ⟨none, Op.store 59 _ _, _, _, _, _⟩) ?_); (refine Se.toL rfl (Se.sow 0 hs rfl rfl rfl rfl ((by simp [Value.oneCell'])) ((by kernel_rfl)) (rfl) ?_); clear hs; intro w hs; try simp only [List.set_cons_zero] at hs)) | ((first | with_reducible refine Se.ab hs ?_ | with_reducible refine Se.abc hs ?_); clear hs; (first | ((fail_if_success (have _q := g4)); generalize w.heap.size = g4; intro w hs) | (generalize w.heap.size = g5; intro w hs))) | (go_at_call 46; refine Calls.mono (rConnect_st' hs (by simp only [List.mem_cons, HM.out, or_true]) HQ.out i true H1.out) ?_; clear hs; rintro e w ⟨A', c', rfl, hs⟩))
  refine Ch.region' 12 (fun wx => Li.Blk wx g11 [.int .i64 q'.tries, .slice A' q'.l.length c'] 59 ∧ Li.Blk wx g5 [.int .i64 2, .int .i64 i, .int .i64 gr, .int .i64 sta, .int .i64 by', .int .i64 tr, .int .u8 ty, .int .u8 code, .bool more, .bool never] 43) (fun | 5 => true | 6 => true | 10 => true | _ => false) (by kernel_rfl) (by decide +kernel) (⟨hs.hold (.blk g11 59 [.int .i64 q'.tries, .slice A' q'.l.length c']) (by simp), hs.hold (.blk g5 43 [.int .i64 2, .int .i64 i, .int .i64 gr, .int .i64 sta, .int .i64 by', .int .i64 tr, .int .u8 ty, .int .u8 code, .bool more, .bool never]) (by simp)⟩) ?_
  replace hs := hs.drew
  generalize w.drew = w at hs ⊢
  change Ch.CW _ _ _ _ _ [0, 1, 2, 3, 4, 5, 6, 7, 8, 9, 10, 11] _ _
  iterate 5 ((first | (refine Ch.pure (v := ?_) (by rfl) (by rfl) (by rfl) (fun wx hS => ?_) ?_; rotate_left; (focus (go_simp; (first | done | with_reducible rfl)))) | refine Ch.pure (v := _) (by rfl) (by rfl) (by rfl) (fun wx hS => Se.xla rfl rfl (Li.Rd.of_blk (hS.1)) (by kernel_rfl) (by decide +kernel)) ?_ | refine Ch.pure (v := _) (by rfl) (by rfl) (by rfl) (fun wx hS => Se.xl rfl rfl (by rw [(hS.2).cell]; rfl) (by decide +kernel)) ?_); (try simp only [Act.put, List.setIfInBounds_toArray, List.set_cons_zero, List.set_cons_succ]))
  refine Ch.noise (by rfl) (by rfl) (by rfl) ?_
  refine Se.gcall (f := 19) (args := #[.pointer (some ⟨D, 0, none⟩), .int .i64 i]) ?_ ?_
  · go_simp
  refine Calls.mono (connect_st' hs.u25 HQm.out i H2.out) ?_
  clear hs
  rintro e w ⟨rfl, hs⟩
  refine ⟨_, rfl, ⟨hs.hold (.blk g11 59 [.int .i64 q'.tries, .slice A' q'.l.length c']) (by simp), hs.hold (.blk g5 43 [.int .i64 2, .int .i64 i, .int .i64 gr, .int .i64 sta, .int .i64 by', .int .i64 tr, .int .u8 ty, .int .u8 code, .bool more, .bool never]) (by simp)⟩, ?_⟩
  (try simp only [Act.put, List.setIfInBounds_toArray, List.set_cons_zero, List.set_cons_succ])
  refine Ch.noise (by rfl) (by rfl) (by rfl) ?_
  refine Se.gcall (f := 13) (args := #[.int .i64 y]) ?_ ?_
  · go_simp
  refine Calls.mono (num_st hs _) ?_
  clear hs
  rintro e w ⟨rfl, hs⟩
  refine ⟨_, rfl, ⟨hs.hold (.blk g11 59 [.int .i64 q'.tries, .slice A' q'.l.length c']) (by simp), hs.hold (.blk g5 43 [.int .i64 2, .int .i64 i, .int .i64 gr, .int .i64 sta, .int .i64 by', .int .i64 tr, .int .u8 ty, .int .u8 code, .bool more, .bool never]) (by simp)⟩, ?_⟩
  (try simp only [Act.put, List.setIfInBounds_toArray, List.set_cons_zero, List.set_cons_succ])
  iterate 2 (refine Ch.pure (v := ?_) (by rfl) (by rfl) (by rfl) (fun wx hS => ?_) ?_; rotate_left; (focus (go_simp; (first | done | with_reducible rfl))); (try simp only [Act.put, List.setIfInBounds_toArray, List.set_cons_zero, List.set_cons_succ]))
  iterate 1 (refine Ch.pure (v := ?_) (by rfl) (by rfl) (by rfl) (fun wx hS => ?_) ?_; rotate_left; (focus (go_simp; (first | done | with_reducible rfl))); (try simp only [Act.put, List.setIfInBounds_toArray, List.set_cons_zero, List.set_cons_succ]))
  refine Ch.noise (by rfl) (by rfl) (by rfl) (Se.sow 4 (vs := [.int .i64 q'.tries, .slice A' q'.l.length c']) hs rfl rfl rfl rfl (by simp [Value.oneCell']) (by kernel_rfl) rfl ?_)
  clear hs
  intro w hs
  simp only [List.set_cons_zero, List.set_cons_succ] at hs
  refine ⟨⟨hs.hold (.blk g11 59 [.int .i64 q'.tries, .slice A' q'.l.length c']) (by simp), hs.hold (.blk g5 43 [.int .i64 2, .int .i64 i, .int .i64 gr, .int .i64 sta, .int .i64 by', .int .i64 tr, .int .u8 ty, .int .u8 code, .bool more, .bool never]) (by simp)⟩, ?_⟩
  (try simp only [Act.put, List.setIfInBounds_toArray, List.set_cons_zero, List.set_cons_succ])
  iterate 1 (refine Ch.pure (v := ?_) (by rfl) (by rfl) (by rfl) (fun wx hS => ?_) ?_; rotate_left; (focus (go_simp; (first | done | with_reducible rfl))); (try simp only [Act.put, List.setIfInBounds_toArray, List.set_cons_zero, List.set_cons_succ]))
  refine Ch.done ?_
  simp only [List.drop_succ_cons, List.drop_zero]
  go_wp2_with fail
  refine Se.ret hs [.pointer _, rv _ _ _, .bool true] rfl ⟨rfl, Se.resRow rfl (Reads.blk 4 rfl) (by kernel_rfl) (by kernel_rfl), rfl, trivial⟩ (by simp) rfl ?_
  exact ⟨_, _, _, _, A', c', rfl, hs.sub (by repeat (first | exact List.Sublist.refl _ | refine List.Sublist.cons_cons _ ?_ | refine List.Sublist.cons _ ?_))⟩
set_option maxRecDepth 100000 in
set_option maxHeartbeats 8000000 in
theorem act_3 (hs : St w0 X (pD D (some ⟨g, off, none⟩) c1 (mapP q) :: pG g off c1 (mapP q) :: L) w) (hm : At.rd A (cells q.l) ∈ L) (hq : OkP q) (i gr sta by' tr ty code : Int) (more never : Bool) (hS : okSt ⟨ty, code, more, never⟩) :
    Calls Try.prog 26 #[.pointer (some ⟨D, 0, none⟩), rv q A c, .agg #[.int .i64 3, .int .i64 i, .int .i64 gr, .int .i64 sta, .int .i64 by', .int .i64 tr, .int .u8 ty, .int .u8 code, .bool more, .bool never]] w fun e w' => ∃ D' g' off' c1' A' c', e = .returned (.tuple #[.pointer (some ⟨D', 0, none⟩), rv ((turn q i false).1) A' c', .bool true]) ∧ St w0 X (pD D' (some ⟨g', off', none⟩) c1' (mapP ((turn q i false).1)) :: pG g' off' c1' (mapP ((turn q i false).1)) :: .rd A' (cells ((turn q i false).1).l) :: L) w' := by
  have HM := Lib.hid hm
  have HQ := Lib.hid hq
  have HQm := Lib.hid hq.map
  have HS := Lib.hid hS
  clear hm hq hS
  obtain ⟨q', m, y, hy⟩ : ∃ q' m y, turn q i false = (q', m, y) := ⟨_, _, _, rfl⟩
  have H1 := Lib.hid hy
  have H2 := Lib.hid (show turn (mapP q) i false = (mapP q', m, y) by rw [turn_map, hy])
  rw [hy]
  clear hy
  go_enter Try.func26, Try.ntmps26
  go_upto_region 12 with (first | ((with_reducible refine Se.isL (o := ⟨some 7, _, _, _, _, _⟩) ?_); (refine Se.toL rfl (Se.al (o := ⟨some 7, _, _, _, _, _⟩) hs rfl (rfl) ?_); clear hs; rintro w g7 - hs)) | ((with_reducible refine Se.isL (o := ⟨some 32, _, _, _, _, _⟩) ?_); (refine Se.toL rfl (Se.ld (o := ⟨some 32, _, _, _, _, _⟩) hs rfl rfl (Cell.blk 1 rfl rfl) (by kernel_rfl) ?_))) | ((with_reducible refine Se.isL (o := ⟨some 82, _, _, _, _, _⟩) ?_); (refine Se.toL rfl (Se.ldw (o := ⟨some 82, _, _, _, _, _⟩) hs rfl rfl ((Reads.blk 2 rfl)) ((by kernel_rfl)) (by kernel_rfl) ?_))) | ((with_reducible refine Se.isL (o := ⟨some 84, _, _, _, _, _⟩) ?_); (refine Se.toL rfl (Se.ld (o := ⟨some 84, _, _, _, _, _⟩) hs rfl rfl (Cell.blk 1 rfl rfl) (by kernel_rfl) ?_))) | ((with_reducible refine Se.isL (o := ⟨some 92, _, _, _, _, _⟩) ?_); (refine Se.toL rfl (Se.ld (o := ⟨some 92, _, _, _, _, _⟩) hs rfl rfl (Cell.blk 3 rfl rfl) (by kernel_rfl) ?_))) | ((with_reducible refine Se.isL (o := ⟨some 14, _, _, _, _, _⟩) ?_); (refine Se.toL rfl (Se.al (o := ⟨some 14, _, _, _, _, _⟩) hs rfl (rfl) ?_); clear hs; rintro w g14 - hs)) | ((with_reducible refine Se.isL (o := ⟨none, Op.store 59 _ _, _, _, _, _⟩) ?_); (refine Se.toL rfl (Se.sow 0 hs rfl rfl rfl rfl ((by simp [Value.oneCell'])) ((by kernel_rfl)) (rfl) ?_); clear hs; intro w hs; try simp only [List.set_cons_zero] at hs)) | ((first | with_reducible refine Se.ab hs ?_ | with_reducible refine Se.abc hs ?_); clear hs; (first | ((fail_if_success (have _q := g4)); generalize w.heap.size = g4; intro w hs) | (generalize w.heap.size = g5; intro w hs))) | (go_at_call 46; refine Calls.mono (rConnect_st' hs (by simp only [List.mem_cons, HM.out, or_true]) HQ.out i false H1.out) ?_; clear hs; rintro e w ⟨A', c', rfl, hs⟩) | (go_at_call 20; refine Calls.mono (disconnect_st' hs.u25 HQm.out i H2.out) ?_; clear hs; rintro e w ⟨rfl, hs⟩))
  refine Ch.region' 14 (fun wx => Li.Blk wx g14 [.int .i64 q'.tries, .slice A' q'.l.length c'] 59 ∧ Li.Blk wx g5 [.int .i64 3, .int .i64 i, .int .i64 gr, .int .i64 sta, .int .i64 by', .int .i64 tr, .int .u8 ty, .int .u8 code, .bool more, .bool never] 43) (fun | 7 => true | 12 => true | _ => false) (by kernel_rfl) (by decide +kernel) (⟨hs.hold (.blk g14 59 [.int .i64 q'.tries, .slice A' q'.l.length c']) (by simp), hs.hold (.blk g5 43 [.int .i64 3, .int .i64 i, .int .i64 gr, .int .i64 sta, .int .i64 by', .int .i64 tr, .int .u8 ty, .int .u8 code, .bool more, .bool never]) (by simp)⟩) ?_
  replace hs := hs.drew
  generalize w.drew = w at hs ⊢
  change Ch.CW _ _ _ _ _ [0, 1, 2, 3, 4, 5, 6, 7, 8, 9, 10, 11, 12, 13] _ _
  iterate 7 ((first | (refine Ch.pure (v := ?_) (by rfl) (by rfl) (by rfl) (fun wx hS => ?_) ?_; rotate_left; (focus (go_simp; (first | done | with_reducible rfl)))) | refine Ch.pure (v := _) (by rfl) (by rfl) (by rfl) (fun wx hS => Se.xla rfl rfl (Li.Rd.of_blk (hS.1)) (by kernel_rfl) (by decide +kernel)) ?_); (try simp only [Act.put, List.setIfInBounds_toArray, List.set_cons_zero, List.set_cons_succ]))
  refine Ch.noise (by rfl) (by rfl) (by rfl) ?_
  refine Se.gcall (f := 13) (args := #[.int .i64 y]) ?_ ?_
  · go_simp
  refine Calls.mono (num_st hs _) ?_
  clear hs
  rintro e w ⟨rfl, hs⟩
  refine ⟨_, rfl, ⟨hs.hold (.blk g14 59 [.int .i64 q'.tries, .slice A' q'.l.length c']) (by simp), hs.hold (.blk g5 43 [.int .i64 3, .int .i64 i, .int .i64 gr, .int .i64 sta, .int .i64 by', .int .i64 tr, .int .u8 ty, .int .u8 code, .bool more, .bool never]) (by simp)⟩, ?_⟩
  (try simp only [Act.put, List.setIfInBounds_toArray, List.set_cons_zero, List.set_cons_succ])
  iterate 3 (refine Ch.pure (v := ?_) (by rfl) (by rfl) (by rfl) (fun wx hS => ?_) ?_; rotate_left; (focus (go_simp; (first | done | with_reducible rfl))); (try simp only [Act.put, List.setIfInBounds_toArray, List.set_cons_zero, List.set_cons_succ]))
  iterate 1 (refine Ch.pure (v := ?_) (by rfl) (by rfl) (by rfl) (fun wx hS => ?_) ?_; rotate_left; (focus (go_simp; (first | done | with_reducible rfl))); (try simp only [Act.put, List.setIfInBounds_toArray, List.set_cons_zero, List.set_cons_succ]))
  refine Ch.noise (by rfl) (by rfl) (by rfl) (Se.sow 4 (vs := [.int .i64 q'.tries, .slice A' q'.l.length c']) hs rfl rfl rfl rfl (by simp [Value.oneCell']) (by kernel_rfl) rfl ?_)
  clear hs
  intro w hs
  simp only [List.set_cons_zero, List.set_cons_succ] at hs
  refine ⟨⟨hs.hold (.blk g14 59 [.int .i64 q'.tries, .slice A' q'.l.length c']) (by simp), hs.hold (.blk g5 43 [.int .i64 3, .int .i64 i, .int .i64 gr, .int .i64 sta, .int .i64 by', .int .i64 tr, .int .u8 ty, .int .u8 code, .bool more, .bool never]) (by simp)⟩, ?_⟩
  (try simp only [Act.put, List.setIfInBounds_toArray, List.set_cons_zero, List.set_cons_succ])
  iterate 1 (refine Ch.pure (v := ?_) (by rfl) (by rfl) (by rfl) (fun wx hS => ?_) ?_; rotate_left; (focus (go_simp; (first | done | with_reducible rfl))); (try simp only [Act.put, List.setIfInBounds_toArray, List.set_cons_zero, List.set_cons_succ]))
  refine Ch.done ?_
  simp only [List.drop_succ_cons, List.drop_zero]
  go_wp2_with fail
  refine Se.ret hs [.pointer _, rv _ _ _, .bool true] rfl ⟨rfl, Se.resRow rfl (Reads.blk 4 rfl) (by kernel_rfl) (by kernel_rfl), rfl, trivial⟩ (by simp) rfl ?_
  exact ⟨_, _, _, _, A', c', rfl, hs.sub (by repeat (first | exact List.Sublist.refl _ | refine List.Sublist.cons_cons _ ?_ | refine List.Sublist.cons _ ?_))⟩
set_option maxRecDepth 100000 in
set_option maxHeartbeats 8000000 in
theorem act_4 (hs : St w0 X (pD D (some ⟨g, off, none⟩) c1 (mapP q) :: pG g off c1 (mapP q) :: L) w) (hm : At.rd A (cells q.l) ∈ L) (hq : OkP q) (i gr sta by' tr ty code : Int) (more never : Bool) (hS : okSt ⟨ty, code, more, never⟩) :
    Calls Try.prog 26 #[.pointer (some ⟨D, 0, none⟩), rv q A c, .agg #[.int .i64 4, .int .i64 i, .int .i64 gr, .int .i64 sta, .int .i64 by', .int .i64 tr, .int .u8 ty, .int .u8 code, .bool more, .bool never]] w fun e w' => ∃ D' g' off' c1' A' c', e = .returned (.tuple #[.pointer (some ⟨D', 0, none⟩), rv ((submit q i by').1) A' c', .bool true]) ∧ St w0 X (pD D' (some ⟨g', off', none⟩) c1' (mapP ((submit q i by').1)) :: pG g' off' c1' (mapP ((submit q i by').1)) :: .rd A' (cells ((submit q i by').1).l) :: L) w' := by
  have HM := Lib.hid hm
  have HQ := Lib.hid hq
  have HQm := Lib.hid hq.map
  have HS := Lib.hid hS
  clear hm hq hS
  obtain ⟨q', y, hy⟩ : ∃ q' y, submit q i by' = (q', y) := ⟨_, _, rfl⟩
  have H1 := Lib.hid hy
  have H2 := Lib.hid (show submit (mapP q) i by' = (mapP q', y) by rw [submit_map, hy])
  rw [hy]
  clear hy
  go_enter Try.func26, Try.ntmps26
  go_upto_region 16 with (first | ((with_reducible refine Se.isL (o := ⟨some 7, _, _, _, _, _⟩) ?_); (refine Se.toL rfl (Se.al (o := ⟨some 7, _, _, _, _, _⟩) hs rfl (rfl) ?_); clear hs; rintro w g7 - hs)) | ((with_reducible refine Se.isL (o := ⟨some 32, _, _, _, _, _⟩) ?_); (refine Se.toL rfl (Se.ld (o := ⟨some 32, _, _, _, _, _⟩) hs rfl rfl (Cell.blk 1 rfl rfl) (by kernel_rfl) ?_))) | ((with_reducible refine Se.isL (o := ⟨some 111, _, _, _, _, _⟩) ?_); (refine Se.toL rfl (Se.ldw (o := ⟨some 111, _, _, _, _, _⟩) hs rfl rfl ((Reads.blk 2 rfl)) ((by kernel_rfl)) (by kernel_rfl) ?_))) | ((with_reducible refine Se.isL (o := ⟨some 113, _, _, _, _, _⟩) ?_); (refine Se.toL rfl (Se.ld (o := ⟨some 113, _, _, _, _, _⟩) hs rfl rfl (Cell.blk 1 rfl rfl) (by kernel_rfl) ?_))) | ((with_reducible refine Se.isL (o := ⟨some 115, _, _, _, _, _⟩) ?_); (refine Se.toL rfl (Se.ld (o := ⟨some 115, _, _, _, _, _⟩) hs rfl rfl (Cell.blk 1 rfl rfl) (by kernel_rfl) ?_))) | ((with_reducible refine Se.isL (o := ⟨some 19, _, _, _, _, _⟩) ?_); (refine Se.toL rfl (Se.al (o := ⟨some 19, _, _, _, _, _⟩) hs rfl (rfl) ?_); clear hs; rintro w g19 - hs)) | ((with_reducible refine Se.isL (o := ⟨none, Op.store 59 _ _, _, _, _, _⟩) ?_); (refine Se.toL rfl (Se.sow 0 hs rfl rfl rfl rfl ((by simp [Value.oneCell'])) ((by kernel_rfl)) (rfl) ?_); clear hs; intro w hs; try simp only [List.set_cons_zero] at hs)) | ((first | with_reducible refine Se.ab hs ?_ | with_reducible refine Se.abc hs ?_); clear hs; (first | ((fail_if_success (have _q := g4)); generalize w.heap.size = g4; intro w hs) | (generalize w.heap.size = g5; intro w hs))) | (go_at_call 47; refine Calls.mono (rSubmit_st' hs (by simp only [List.mem_cons, HM.out, or_true]) HQ.out i by' H1.out) ?_; clear hs; rintro e w ⟨A', c', rfl, hs⟩))
  refine Ch.region' 14 (fun wx => Li.Blk wx g19 [.int .i64 q'.tries, .slice A' q'.l.length c'] 59 ∧ Li.Blk wx g5 [.int .i64 4, .int .i64 i, .int .i64 gr, .int .i64 sta, .int .i64 by', .int .i64 tr, .int .u8 ty, .int .u8 code, .bool more, .bool never] 43) (fun | 7 => true | 8 => true | 12 => true | _ => false) (by kernel_rfl) (by decide +kernel) (⟨hs.hold (.blk g19 59 [.int .i64 q'.tries, .slice A' q'.l.length c']) (by simp), hs.hold (.blk g5 43 [.int .i64 4, .int .i64 i, .int .i64 gr, .int .i64 sta, .int .i64 by', .int .i64 tr, .int .u8 ty, .int .u8 code, .bool more, .bool never]) (by simp)⟩) ?_
  replace hs := hs.drew
  generalize w.drew = w at hs ⊢
  change Ch.CW _ _ _ _ _ [0, 1, 2, 3, 4, 5, 6, 7, 8, 9, 10, 11, 12, 13] _ _
  iterate 7 ((first | (refine Ch.pure (v := ?_) (by rfl) (by rfl) (by rfl) (fun wx hS => ?_) ?_; rotate_left; (focus (go_simp; (first | done | with_reducible rfl)))) | refine Ch.pure (v := _) (by rfl) (by rfl) (by rfl) (fun wx hS => Se.xla rfl rfl (Li.Rd.of_blk (hS.1)) (by kernel_rfl) (by decide +kernel)) ?_ | refine Ch.pure (v := _) (by rfl) (by rfl) (by rfl) (fun wx hS => Se.xl rfl rfl (by rw [(hS.2).cell]; rfl) (by decide +kernel)) ?_); (try simp only [Act.put, List.setIfInBounds_toArray, List.set_cons_zero, List.set_cons_succ]))
  refine Ch.noise (by rfl) (by rfl) (by rfl) ?_
  refine Se.gcall (f := 14) (args := #[.pointer (some ⟨D, 0, none⟩), .int .i64 i, .int .i64 by']) ?_ ?_
  · go_simp
  refine Calls.mono (submit_st' hs.u25 HQm.out i by' H2.out) ?_
  clear hs
  rintro e w ⟨rfl, hs⟩
  refine ⟨_, rfl, ⟨hs.hold (.blk g19 59 [.int .i64 q'.tries, .slice A' q'.l.length c']) (by simp), hs.hold (.blk g5 43 [.int .i64 4, .int .i64 i, .int .i64 gr, .int .i64 sta, .int .i64 by', .int .i64 tr, .int .u8 ty, .int .u8 code, .bool more, .bool never]) (by simp)⟩, ?_⟩
  (try simp only [Act.put, List.setIfInBounds_toArray, List.set_cons_zero, List.set_cons_succ])
  refine Ch.noise (by rfl) (by rfl) (by rfl) ?_
  refine Se.gcall (f := 13) (args := #[.int .i64 y]) ?_ ?_
  · go_simp
  refine Calls.mono (num_st hs _) ?_
  clear hs
  rintro e w ⟨rfl, hs⟩
  refine ⟨_, rfl, ⟨hs.hold (.blk g19 59 [.int .i64 q'.tries, .slice A' q'.l.length c']) (by simp), hs.hold (.blk g5 43 [.int .i64 4, .int .i64 i, .int .i64 gr, .int .i64 sta, .int .i64 by', .int .i64 tr, .int .u8 ty, .int .u8 code, .bool more, .bool never]) (by simp)⟩, ?_⟩
  (try simp only [Act.put, List.setIfInBounds_toArray, List.set_cons_zero, List.set_cons_succ])
  iterate 2 (refine Ch.pure (v := ?_) (by rfl) (by rfl) (by rfl) (fun wx hS => ?_) ?_; rotate_left; (focus (go_simp; (first | done | with_reducible rfl))); (try simp only [Act.put, List.setIfInBounds_toArray, List.set_cons_zero, List.set_cons_succ]))
  iterate 1 (refine Ch.pure (v := ?_) (by rfl) (by rfl) (by rfl) (fun wx hS => ?_) ?_; rotate_left; (focus (go_simp; (first | done | with_reducible rfl))); (try simp only [Act.put, List.setIfInBounds_toArray, List.set_cons_zero, List.set_cons_succ]))
  refine Ch.noise (by rfl) (by rfl) (by rfl) (Se.sow 4 (vs := [.int .i64 q'.tries, .slice A' q'.l.length c']) hs rfl rfl rfl rfl (by simp [Value.oneCell']) (by kernel_rfl) rfl ?_)
  clear hs
  intro w hs
  simp only [List.set_cons_zero, List.set_cons_succ] at hs
  refine ⟨⟨hs.hold (.blk g19 59 [.int .i64 q'.tries, .slice A' q'.l.length c']) (by simp), hs.hold (.blk g5 43 [.int .i64 4, .int .i64 i, .int .i64 gr, .int .i64 sta, .int .i64 by', .int .i64 tr, .int .u8 ty, .int .u8 code, .bool more, .bool never]) (by simp)⟩, ?_⟩
  (try simp only [Act.put, List.setIfInBounds_toArray, List.set_cons_zero, List.set_cons_succ])
  iterate 1 (refine Ch.pure (v := ?_) (by rfl) (by rfl) (by rfl) (fun wx hS => ?_) ?_; rotate_left; (focus (go_simp; (first | done | with_reducible rfl))); (try simp only [Act.put, List.setIfInBounds_toArray, List.set_cons_zero, List.set_cons_succ]))
  refine Ch.done ?_
  simp only [List.drop_succ_cons, List.drop_zero]
  go_wp2_with fail
  refine Se.ret hs [.pointer _, rv _ _ _, .bool true] rfl ⟨rfl, Se.resRow rfl (Reads.blk 4 rfl) (by kernel_rfl) (by kernel_rfl), rfl, trivial⟩ (by simp) rfl ?_
  exact ⟨_, _, _, _, A', c', rfl, hs.sub (by repeat (first | exact List.Sublist.refl _ | refine List.Sublist.cons_cons _ ?_ | refine List.Sublist.cons _ ?_))⟩
set_option maxRecDepth 100000 in
set_option maxHeartbeats 8000000 in
theorem act_5 (hs : St w0 X (pD D (some ⟨g, off, none⟩) c1 (mapP q) :: pG g off c1 (mapP q) :: L) w) (hm : At.rd A (cells q.l) ∈ L) (hq : OkP q) (i gr sta by' tr ty code : Int) (more never : Bool) (hS : okSt ⟨ty, code, more, never⟩) :
    Calls Try.prog 26 #[.pointer (some ⟨D, 0, none⟩), rv q A c, .agg #[.int .i64 5, .int .i64 i, .int .i64 gr, .int .i64 sta, .int .i64 by', .int .i64 tr, .int .u8 ty, .int .u8 code, .bool more, .bool never]] w fun e w' => ∃ D' g' off' c1' A' c', e = .returned (.tuple #[.pointer (some ⟨D', 0, none⟩), rv ((submit q i by').1) A' c', .bool true]) ∧ St w0 X (pD D' (some ⟨g', off', none⟩) c1' (mapP ((submit q i by').1)) :: pG g' off' c1' (mapP ((submit q i by').1)) :: .rd A' (cells ((submit q i by').1).l) :: L) w' := by
  have HM := Lib.hid hm
  have HQ := Lib.hid hq
  have HQm := Lib.hid hq.map
  have HS := Lib.hid hS
  clear hm hq hS
  obtain ⟨q', y, hy⟩ : ∃ q' y, submit q i by' = (q', y) := ⟨_, _, rfl⟩
  have H1 := Lib.hid hy
  have H2 := Lib.hid (show submit (mapP q) i by' = (mapP q', y) by rw [submit_map, hy])
  rw [hy]
  clear hy
  go_enter Try.func26, Try.ntmps26
  go_upto_region 16 with (first | ((with_reducible refine Se.isL (o := ⟨some 7, _, _, _, _, _⟩) ?_); (refine Se.toL rfl (Se.al (o := ⟨some 7, _, _, _, _, _⟩) hs rfl (rfl) ?_); clear hs; rintro w g7 - hs)) | ((with_reducible refine Se.isL (o := ⟨some 32, _, _, _, _, _⟩) ?_); (refine Se.toL rfl (Se.ld (o := ⟨some 32, _, _, _, _, _⟩) hs rfl rfl (Cell.blk 1 rfl rfl) (by kernel_rfl) ?_))) | ((with_reducible refine Se.isL (o := ⟨some 111, _, _, _, _, _⟩) ?_); (refine Se.toL rfl (Se.ldw (o := ⟨some 111, _, _, _, _, _⟩) hs rfl rfl ((Reads.blk 2 rfl)) ((by kernel_rfl)) (by kernel_rfl) ?_))) | ((with_reducible refine Se.isL (o := ⟨some 113, _, _, _, _, _⟩) ?_); (refine Se.toL rfl (Se.ld (o := ⟨some 113, _, _, _, _, _⟩) hs rfl rfl (Cell.blk 1 rfl rfl) (by kernel_rfl) ?_))) | ((with_reducible refine Se.isL (o := ⟨some 115, _, _, _, _, _⟩) ?_); (refine Se.toL rfl (Se.ld (o := ⟨some 115, _, _, _, _, _⟩) hs rfl rfl (Cell.blk 1 rfl rfl) (by kernel_rfl) ?_))) | ((with_reducible refine Se.isL (o := ⟨some 19, _, _, _, _, _⟩) ?_); (refine Se.toL rfl (Se.al (o := ⟨some 19, _, _, _, _, _⟩) hs rfl (rfl) ?_); clear hs; rintro w g19 - hs)) | ((with_reducible refine Se.isL (o := ⟨none, Op.store 59 _ _, _, _, _, _⟩) ?_); (refine Se.toL rfl (Se.sow 0 hs rfl rfl rfl rfl ((by simp [Value.oneCell'])) ((by kernel_rfl)) (rfl) ?_); clear hs; intro w hs; try simp only [List.set_cons_zero] at hs)) | ((first | with_reducible refine Se.ab hs ?_ | with_reducible refine Se.abc hs ?_); clear hs; (first | ((fail_if_success (have _q := g4)); generalize w.heap.size = g4; intro w hs) | (generalize w.heap.size = g5; intro w hs))) | (go_at_call 47; refine Calls.mono (rSubmit_st' hs (by simp only [List.mem_cons, HM.out, or_true]) HQ.out i by' H1.out) ?_; clear hs; rintro e w ⟨A', c', rfl, hs⟩))
  refine Ch.region' 14 (fun wx => Li.Blk wx g19 [.int .i64 q'.tries, .slice A' q'.l.length c'] 59 ∧ Li.Blk wx g5 [.int .i64 5, .int .i64 i, .int .i64 gr, .int .i64 sta, .int .i64 by', .int .i64 tr, .int .u8 ty, .int .u8 code, .bool more, .bool never] 43) (fun | 7 => true | 8 => true | 12 => true | _ => false) (by kernel_rfl) (by decide +kernel) (⟨hs.hold (.blk g19 59 [.int .i64 q'.tries, .slice A' q'.l.length c']) (by simp), hs.hold (.blk g5 43 [.int .i64 5, .int .i64 i, .int .i64 gr, .int .i64 sta, .int .i64 by', .int .i64 tr, .int .u8 ty, .int .u8 code, .bool more, .bool never]) (by simp)⟩) ?_
  replace hs := hs.drew
  generalize w.drew = w at hs ⊢
  change Ch.CW _ _ _ _ _ [0, 1, 2, 3, 4, 5, 6, 7, 8, 9, 10, 11, 12, 13] _ _
  iterate 7 ((first | (refine Ch.pure (v := ?_) (by rfl) (by rfl) (by rfl) (fun wx hS => ?_) ?_; rotate_left; (focus (go_simp; (first | done | with_reducible rfl)))) | refine Ch.pure (v := _) (by rfl) (by rfl) (by rfl) (fun wx hS => Se.xla rfl rfl (Li.Rd.of_blk (hS.1)) (by kernel_rfl) (by decide +kernel)) ?_ | refine Ch.pure (v := _) (by rfl) (by rfl) (by rfl) (fun wx hS => Se.xl rfl rfl (by rw [(hS.2).cell]; rfl) (by decide +kernel)) ?_); (try simp only [Act.put, List.setIfInBounds_toArray, List.set_cons_zero, List.set_cons_succ]))
  refine Ch.noise (by rfl) (by rfl) (by rfl) ?_
  refine Se.gcall (f := 14) (args := #[.pointer (some ⟨D, 0, none⟩), .int .i64 i, .int .i64 by']) ?_ ?_
  · go_simp
  refine Calls.mono (submit_st' hs.u25 HQm.out i by' H2.out) ?_
  clear hs
  rintro e w ⟨rfl, hs⟩
  refine ⟨_, rfl, ⟨hs.hold (.blk g19 59 [.int .i64 q'.tries, .slice A' q'.l.length c']) (by simp), hs.hold (.blk g5 43 [.int .i64 5, .int .i64 i, .int .i64 gr, .int .i64 sta, .int .i64 by', .int .i64 tr, .int .u8 ty, .int .u8 code, .bool more, .bool never]) (by simp)⟩, ?_⟩
  (try simp only [Act.put, List.setIfInBounds_toArray, List.set_cons_zero, List.set_cons_succ])
  refine Ch.noise (by rfl) (by rfl) (by rfl) ?_
  refine Se.gcall (f := 13) (args := #[.int .i64 y]) ?_ ?_
  · go_simp
  refine Calls.mono (num_st hs _) ?_
  clear hs
  rintro e w ⟨rfl, hs⟩
  refine ⟨_, rfl, ⟨hs.hold (.blk g19 59 [.int .i64 q'.tries, .slice A' q'.l.length c']) (by simp), hs.hold (.blk g5 43 [.int .i64 5, .int .i64 i, .int .i64 gr, .int .i64 sta, .int .i64 by', .int .i64 tr, .int .u8 ty, .int .u8 code, .bool more, .bool never]) (by simp)⟩, ?_⟩
  (try simp only [Act.put, List.setIfInBounds_toArray, List.set_cons_zero, List.set_cons_succ])
  iterate 2 (refine Ch.pure (v := ?_) (by rfl) (by rfl) (by rfl) (fun wx hS => ?_) ?_; rotate_left; (focus (go_simp; (first | done | with_reducible rfl))); (try simp only [Act.put, List.setIfInBounds_toArray, List.set_cons_zero, List.set_cons_succ]))
  iterate 1 (refine Ch.pure (v := ?_) (by rfl) (by rfl) (by rfl) (fun wx hS => ?_) ?_; rotate_left; (focus (go_simp; (first | done | with_reducible rfl))); (try simp only [Act.put, List.setIfInBounds_toArray, List.set_cons_zero, List.set_cons_succ]))
  refine Ch.noise (by rfl) (by rfl) (by rfl) (Se.sow 4 (vs := [.int .i64 q'.tries, .slice A' q'.l.length c']) hs rfl rfl rfl rfl (by simp [Value.oneCell']) (by kernel_rfl) rfl ?_)
  clear hs
  intro w hs
  simp only [List.set_cons_zero, List.set_cons_succ] at hs
  refine ⟨⟨hs.hold (.blk g19 59 [.int .i64 q'.tries, .slice A' q'.l.length c']) (by simp), hs.hold (.blk g5 43 [.int .i64 5, .int .i64 i, .int .i64 gr, .int .i64 sta, .int .i64 by', .int .i64 tr, .int .u8 ty, .int .u8 code, .bool more, .bool never]) (by simp)⟩, ?_⟩
  (try simp only [Act.put, List.setIfInBounds_toArray, List.set_cons_zero, List.set_cons_succ])
  iterate 1 (refine Ch.pure (v := ?_) (by rfl) (by rfl) (by rfl) (fun wx hS => ?_) ?_; rotate_left; (focus (go_simp; (first | done | with_reducible rfl))); (try simp only [Act.put, List.setIfInBounds_toArray, List.set_cons_zero, List.set_cons_succ]))
  refine Ch.done ?_
  simp only [List.drop_succ_cons, List.drop_zero]
  go_wp2_with fail
  refine Se.ret hs [.pointer _, rv _ _ _, .bool true] rfl ⟨rfl, Se.resRow rfl (Reads.blk 4 rfl) (by kernel_rfl) (by kernel_rfl), rfl, trivial⟩ (by simp) rfl ?_
  exact ⟨_, _, _, _, A', c', rfl, hs.sub (by repeat (first | exact List.Sublist.refl _ | refine List.Sublist.cons_cons _ ?_ | refine List.Sublist.cons _ ?_))⟩
set_option maxRecDepth 100000 in
set_option maxHeartbeats 8000000 in
theorem act_6 (hs : St w0 X (pD D (some ⟨g, off, none⟩) c1 (mapP q) :: pG g off c1 (mapP q) :: L) w) (hm : At.rd A (cells q.l) ∈ L) (hq : OkP q) (i gr sta by' tr ty code : Int) (more never : Bool) (hS : okSt ⟨ty, code, more, never⟩) :
    Calls Try.prog 26 #[.pointer (some ⟨D, 0, none⟩), rv q A c, .agg #[.int .i64 6, .int .i64 i, .int .i64 gr, .int .i64 sta, .int .i64 by', .int .i64 tr, .int .u8 ty, .int .u8 code, .bool more, .bool never]] w fun e w' => ∃ D' g' off' c1' A' c', e = .returned (.tuple #[.pointer (some ⟨D', 0, none⟩), rv ((done q i by').1) A' c', .bool true]) ∧ St w0 X (pD D' (some ⟨g', off', none⟩) c1' (mapP ((done q i by').1)) :: pG g' off' c1' (mapP ((done q i by').1)) :: .rd A' (cells ((done q i by').1).l) :: L) w' := by
  have HM := Lib.hid hm
  have HQ := Lib.hid hq
  have HQm := Lib.hid hq.map
  have HS := Lib.hid hS
  clear hm hq hS
  obtain ⟨q', y, hy⟩ : ∃ q' y, done q i by' = (q', y) := ⟨_, _, rfl⟩
  have H1 := Lib.hid hy
  have H2 := Lib.hid (show done (mapP q) i by' = (mapP q', y) by rw [done_map, hy])
  rw [hy]
  clear hy
  go_enter Try.func26, Try.ntmps26
  go_upto_region 19 with (first | ((with_reducible refine Se.isL (o := ⟨some 7, _, _, _, _, _⟩) ?_); (refine Se.toL rfl (Se.al (o := ⟨some 7, _, _, _, _, _⟩) hs rfl (rfl) ?_); clear hs; rintro w g7 - hs)) | ((with_reducible refine Se.isL (o := ⟨some 32, _, _, _, _, _⟩) ?_); (refine Se.toL rfl (Se.ld (o := ⟨some 32, _, _, _, _, _⟩) hs rfl rfl (Cell.blk 1 rfl rfl) (by kernel_rfl) ?_))) | ((with_reducible refine Se.isL (o := ⟨some 133, _, _, _, _, _⟩) ?_); (refine Se.toL rfl (Se.ldw (o := ⟨some 133, _, _, _, _, _⟩) hs rfl rfl ((Reads.blk 2 rfl)) ((by kernel_rfl)) (by kernel_rfl) ?_))) | ((with_reducible refine Se.isL (o := ⟨some 135, _, _, _, _, _⟩) ?_); (refine Se.toL rfl (Se.ld (o := ⟨some 135, _, _, _, _, _⟩) hs rfl rfl (Cell.blk 1 rfl rfl) (by kernel_rfl) ?_))) | ((with_reducible refine Se.isL (o := ⟨some 137, _, _, _, _, _⟩) ?_); (refine Se.toL rfl (Se.ld (o := ⟨some 137, _, _, _, _, _⟩) hs rfl rfl (Cell.blk 1 rfl rfl) (by kernel_rfl) ?_))) | ((with_reducible refine Se.isL (o := ⟨some 21, _, _, _, _, _⟩) ?_); (refine Se.toL rfl (Se.al (o := ⟨some 21, _, _, _, _, _⟩) hs rfl (rfl) ?_); clear hs; rintro w g21 - hs)) | ((with_reducible refine Se.isL (o := ⟨none, Op.store 59 _ _, _, _, _, _⟩) ?_); (refine Se.toL rfl (Se.sow 0 hs rfl rfl rfl rfl ((by simp [Value.oneCell'])) ((by kernel_rfl)) (rfl) ?_); clear hs; intro w hs; try simp only [List.set_cons_zero] at hs)) | ((first | with_reducible refine Se.ab hs ?_ | with_reducible refine Se.abc hs ?_); clear hs; (first | ((fail_if_success (have _q := g4)); generalize w.heap.size = g4; intro w hs) | (generalize w.heap.size = g5; intro w hs))) | (go_at_call 48; refine Calls.mono (rDone_st' hs (by simp only [List.mem_cons, HM.out, or_true]) HQ.out i by' H1.out) ?_; clear hs; rintro e w ⟨A', c', rfl, hs⟩))
  refine Ch.region' 14 (fun wx => Li.Blk wx g21 [.int .i64 q'.tries, .slice A' q'.l.length c'] 59 ∧ Li.Blk wx g5 [.int .i64 6, .int .i64 i, .int .i64 gr, .int .i64 sta, .int .i64 by', .int .i64 tr, .int .u8 ty, .int .u8 code, .bool more, .bool never] 43) (fun | 7 => true | 8 => true | 12 => true | _ => false) (by kernel_rfl) (by decide +kernel) (⟨hs.hold (.blk g21 59 [.int .i64 q'.tries, .slice A' q'.l.length c']) (by simp), hs.hold (.blk g5 43 [.int .i64 6, .int .i64 i, .int .i64 gr, .int .i64 sta, .int .i64 by', .int .i64 tr, .int .u8 ty, .int .u8 code, .bool more, .bool never]) (by simp)⟩) ?_
  replace hs := hs.drew
  generalize w.drew = w at hs ⊢
  change Ch.CW _ _ _ _ _ [0, 1, 2, 3, 4, 5, 6, 7, 8, 9, 10, 11, 12, 13] _ _
  iterate 7 ((first | (refine Ch.pure (v := ?_) (by rfl) (by rfl) (by rfl) (fun wx hS => ?_) ?_; rotate_left; (focus (go_simp; (first | done | with_reducible rfl)))) | refine Ch.pure (v := _) (by rfl) (by rfl) (by rfl) (fun wx hS => Se.xla rfl rfl (Li.Rd.of_blk (hS.1)) (by kernel_rfl) (by decide +kernel)) ?_ | refine Ch.pure (v := _) (by rfl) (by rfl) (by rfl) (fun wx hS => Se.xl rfl rfl (by rw [(hS.2).cell]; rfl) (by decide +kernel)) ?_); (try simp only [Act.put, List.setIfInBounds_toArray, List.set_cons_zero, List.set_cons_succ]))
  refine Ch.noise (by rfl) (by rfl) (by rfl) ?_
  refine Se.gcall (f := 18) (args := #[.pointer (some ⟨D, 0, none⟩), .int .i64 i, .int .i64 by']) ?_ ?_
  · go_simp
  refine Calls.mono (done_st' hs.u25 HQm.out i by' H2.out) ?_
  clear hs
  rintro e w ⟨rfl, hs⟩
  refine ⟨_, rfl, ⟨hs.hold (.blk g21 59 [.int .i64 q'.tries, .slice A' q'.l.length c']) (by simp), hs.hold (.blk g5 43 [.int .i64 6, .int .i64 i, .int .i64 gr, .int .i64 sta, .int .i64 by', .int .i64 tr, .int .u8 ty, .int .u8 code, .bool more, .bool never]) (by simp)⟩, ?_⟩
  (try simp only [Act.put, List.setIfInBounds_toArray, List.set_cons_zero, List.set_cons_succ])
  refine Ch.noise (by rfl) (by rfl) (by rfl) ?_
  refine Se.gcall (f := 13) (args := #[.int .i64 y]) ?_ ?_
  · go_simp
  refine Calls.mono (num_st hs _) ?_
  clear hs
  rintro e w ⟨rfl, hs⟩
  refine ⟨_, rfl, ⟨hs.hold (.blk g21 59 [.int .i64 q'.tries, .slice A' q'.l.length c']) (by simp), hs.hold (.blk g5 43 [.int .i64 6, .int .i64 i, .int .i64 gr, .int .i64 sta, .int .i64 by', .int .i64 tr, .int .u8 ty, .int .u8 code, .bool more, .bool never]) (by simp)⟩, ?_⟩
  (try simp only [Act.put, List.setIfInBounds_toArray, List.set_cons_zero, List.set_cons_succ])
  iterate 2 (refine Ch.pure (v := ?_) (by rfl) (by rfl) (by rfl) (fun wx hS => ?_) ?_; rotate_left; (focus (go_simp; (first | done | with_reducible rfl))); (try simp only [Act.put, List.setIfInBounds_toArray, List.set_cons_zero, List.set_cons_succ]))
  iterate 1 (refine Ch.pure (v := ?_) (by rfl) (by rfl) (by rfl) (fun wx hS => ?_) ?_; rotate_left; (focus (go_simp; (first | done | with_reducible rfl))); (try simp only [Act.put, List.setIfInBounds_toArray, List.set_cons_zero, List.set_cons_succ]))
  refine Ch.noise (by rfl) (by rfl) (by rfl) (Se.sow 4 (vs := [.int .i64 q'.tries, .slice A' q'.l.length c']) hs rfl rfl rfl rfl (by simp [Value.oneCell']) (by kernel_rfl) rfl ?_)
  clear hs
  intro w hs
  simp only [List.set_cons_zero, List.set_cons_succ] at hs
  refine ⟨⟨hs.hold (.blk g21 59 [.int .i64 q'.tries, .slice A' q'.l.length c']) (by simp), hs.hold (.blk g5 43 [.int .i64 6, .int .i64 i, .int .i64 gr, .int .i64 sta, .int .i64 by', .int .i64 tr, .int .u8 ty, .int .u8 code, .bool more, .bool never]) (by simp)⟩, ?_⟩
  (try simp only [Act.put, List.setIfInBounds_toArray, List.set_cons_zero, List.set_cons_succ])
  iterate 1 (refine Ch.pure (v := ?_) (by rfl) (by rfl) (by rfl) (fun wx hS => ?_) ?_; rotate_left; (focus (go_simp; (first | done | with_reducible rfl))); (try simp only [Act.put, List.setIfInBounds_toArray, List.set_cons_zero, List.set_cons_succ]))
  refine Ch.done ?_
  simp only [List.drop_succ_cons, List.drop_zero]
  go_wp2_with fail
  refine Se.ret hs [.pointer _, rv _ _ _, .bool true] rfl ⟨rfl, Se.resRow rfl (Reads.blk 4 rfl) (by kernel_rfl) (by kernel_rfl), rfl, trivial⟩ (by simp) rfl ?_
  exact ⟨_, _, _, _, A', c', rfl, hs.sub (by repeat (first | exact List.Sublist.refl _ | refine List.Sublist.cons_cons _ ?_ | refine List.Sublist.cons _ ?_))⟩
set_option maxRecDepth 100000 in
set_option maxHeartbeats 8000000 in
theorem act_7 (hs : St w0 X (pD D (some ⟨g, off, none⟩) c1 (mapP q) :: pG g off c1 (mapP q) :: L) w) (hm : At.rd A (cells q.l) ∈ L) (hq : OkP q) (i gr sta by' tr ty code : Int) (more never : Bool) (hS : okSt ⟨ty, code, more, never⟩) :
    Calls Try.prog 26 #[.pointer (some ⟨D, 0, none⟩), rv q A c, .agg #[.int .i64 7, .int .i64 i, .int .i64 gr, .int .i64 sta, .int .i64 by', .int .i64 tr, .int .u8 ty, .int .u8 code, .bool more, .bool never]] w fun e w' => ∃ D' g' off' c1' A' c', e = .returned (.tuple #[.pointer (some ⟨D', 0, none⟩), rv ((learn q i gr ⟨ty, code, more, never⟩).1) A' c', .bool true]) ∧ St w0 X (pD D' (some ⟨g', off', none⟩) c1' (mapP ((learn q i gr ⟨ty, code, more, never⟩).1)) :: pG g' off' c1' (mapP ((learn q i gr ⟨ty, code, more, never⟩).1)) :: .rd A' (cells ((learn q i gr ⟨ty, code, more, never⟩).1).l) :: L) w' := by
  have HM := Lib.hid hm
  have HQ := Lib.hid hq
  have HQm := Lib.hid hq.map
  have HS := Lib.hid hS
  clear hm hq hS
  obtain ⟨q', y, hy⟩ : ∃ q' y, learn q i gr ⟨ty, code, more, never⟩ = (q', y) := ⟨_, _, rfl⟩
  have H1 := Lib.hid hy
  have H2 := Lib.hid (show learn (mapP q) i gr ⟨ty, code, more, never⟩ = (mapP q', y) by rw [learn_map, hy])
  rw [hy]
  clear hy
  go_enter Try.func26, Try.ntmps26
  go_upto_region 22 with (first | ((with_reducible refine Se.isL (o := ⟨some 7, _, _, _, _, _⟩) ?_); (refine Se.toL rfl (Se.al (o := ⟨some 7, _, _, _, _, _⟩) hs rfl (rfl) ?_); clear hs; rintro w g7 - hs)) | ((with_reducible refine Se.isL (o := ⟨some 32, _, _, _, _, _⟩) ?_); (refine Se.toL rfl (Se.ld (o := ⟨some 32, _, _, _, _, _⟩) hs rfl rfl (Cell.blk 1 rfl rfl) (by kernel_rfl) ?_))) | ((with_reducible refine Se.isL (o := ⟨some 155, _, _, _, _, _⟩) ?_); (refine Se.toL rfl (Se.ldw (o := ⟨some 155, _, _, _, _, _⟩) hs rfl rfl ((Reads.blk 2 rfl)) ((by kernel_rfl)) (by kernel_rfl) ?_))) | ((with_reducible refine Se.isL (o := ⟨some 157, _, _, _, _, _⟩) ?_); (refine Se.toL rfl (Se.ld (o := ⟨some 157, _, _, _, _, _⟩) hs rfl rfl (Cell.blk 1 rfl rfl) (by kernel_rfl) ?_))) | ((with_reducible refine Se.isL (o := ⟨some 159, _, _, _, _, _⟩) ?_); (refine Se.toL rfl (Se.ld (o := ⟨some 159, _, _, _, _, _⟩) hs rfl rfl (Cell.blk 1 rfl rfl) (by kernel_rfl) ?_))) | ((with_reducible refine Se.isL (o := ⟨some 161, _, _, _, _, _⟩) ?_); (refine Se.toL rfl (Se.ldw (o := ⟨some 161, _, _, _, _, _⟩) hs rfl rfl ((Reads.blkAt (ys := [.int .u8 ty, .int .u8 code, .bool more, .bool never]) 1 rfl 6 rfl)) ((by kernel_rfl)) (by kernel_rfl) ?_))) | ((with_reducible refine Se.isL (o := ⟨some 23, _, _, _, _, _⟩) ?_); (refine Se.toL rfl (Se.al (o := ⟨some 23, _, _, _, _, _⟩) hs rfl (rfl) ?_); clear hs; rintro w g23 - hs)) | ((with_reducible refine Se.isL (o := ⟨none, Op.store 59 _ _, _, _, _, _⟩) ?_); (refine Se.toL rfl (Se.sow 0 hs rfl rfl rfl rfl ((by simp [Value.oneCell'])) ((by kernel_rfl)) (rfl) ?_); clear hs; intro w hs; try simp only [List.set_cons_zero] at hs)) | ((first | with_reducible refine Se.ab hs ?_ | with_reducible refine Se.abc hs ?_); clear hs; (first | ((fail_if_success (have _q := g4)); generalize w.heap.size = g4; intro w hs) | (generalize w.heap.size = g5; intro w hs))) | (go_at_call 49; refine Calls.mono (rLearn_st' hs (by simp only [List.mem_cons, HM.out, or_true]) HQ.out i gr ⟨ty, code, more, never⟩ H1.out) ?_; clear hs; rintro e w ⟨A', c', rfl, hs⟩))
  refine Ch.region' 16 (fun wx => Li.Blk wx g23 [.int .i64 q'.tries, .slice A' q'.l.length c'] 59 ∧ Li.Blk wx g5 [.int .i64 7, .int .i64 i, .int .i64 gr, .int .i64 sta, .int .i64 by', .int .i64 tr, .int .u8 ty, .int .u8 code, .bool more, .bool never] 43) (fun | 9 => true | 10 => true | 14 => true | _ => false) (by kernel_rfl) (by decide +kernel) (⟨hs.hold (.blk g23 59 [.int .i64 q'.tries, .slice A' q'.l.length c']) (by simp), hs.hold (.blk g5 43 [.int .i64 7, .int .i64 i, .int .i64 gr, .int .i64 sta, .int .i64 by', .int .i64 tr, .int .u8 ty, .int .u8 code, .bool more, .bool never]) (by simp)⟩) ?_
  replace hs := hs.drew
  generalize w.drew = w at hs ⊢
  change Ch.CW _ _ _ _ _ [0, 1, 2, 3, 4, 5, 6, 7, 8, 9, 10, 11, 12, 13, 14, 15] _ _
  iterate 9 ((first | (refine Ch.pure (v := ?_) (by rfl) (by rfl) (by rfl) (fun wx hS => ?_) ?_; rotate_left; (focus (go_simp; (first | done | with_reducible rfl)))) | refine Ch.pure (v := _) (by rfl) (by rfl) (by rfl) (fun wx hS => Se.xla rfl rfl (Li.Rd.of_blk (hS.1)) (by kernel_rfl) (by decide +kernel)) ?_ | refine Ch.pure (v := _) (by rfl) (by rfl) (by rfl) (fun wx hS => Se.xl rfl rfl (by rw [(hS.2).cell]; rfl) (by decide +kernel)) ?_ | refine Ch.pure (v := _) (by rfl) (by rfl) (by rfl) (fun wx hS => Se.xla rfl rfl (show Li.Rd wx (some ⟨g5, 6, none⟩) [.int .u8 ty, .int .u8 code, .bool more, .bool never] from Se.Rd.drop' (Li.Rd.of_blk hS.2) 6) (by kernel_rfl) (by kernel_rfl)) ?_); (try simp only [Act.put, List.setIfInBounds_toArray, List.set_cons_zero, List.set_cons_succ]))
  refine Ch.noise (by rfl) (by rfl) (by rfl) ?_
  refine Se.gcall (f := 30) (args := #[.pointer (some ⟨D, 0, none⟩), .int .i64 i, .int .i64 gr, stv ⟨ty, code, more, never⟩]) ?_ ?_
  · go_simp
  refine Calls.mono (learn_st' hs.u25 HQm.out i gr ⟨ty, code, more, never⟩ H2.out) ?_
  clear hs
  rintro e w ⟨rfl, hs⟩
  refine ⟨_, rfl, ⟨hs.hold (.blk g23 59 [.int .i64 q'.tries, .slice A' q'.l.length c']) (by simp), hs.hold (.blk g5 43 [.int .i64 7, .int .i64 i, .int .i64 gr, .int .i64 sta, .int .i64 by', .int .i64 tr, .int .u8 ty, .int .u8 code, .bool more, .bool never]) (by simp)⟩, ?_⟩
  (try simp only [Act.put, List.setIfInBounds_toArray, List.set_cons_zero, List.set_cons_succ])
  refine Ch.noise (by rfl) (by rfl) (by rfl) ?_
  refine Se.gcall (f := 13) (args := #[.int .i64 y]) ?_ ?_
  · go_simp
  refine Calls.mono (num_st hs _) ?_
  clear hs
  rintro e w ⟨rfl, hs⟩
  refine ⟨_, rfl, ⟨hs.hold (.blk g23 59 [.int .i64 q'.tries, .slice A' q'.l.length c']) (by simp), hs.hold (.blk g5 43 [.int .i64 7, .int .i64 i, .int .i64 gr, .int .i64 sta, .int .i64 by', .int .i64 tr, .int .u8 ty, .int .u8 code, .bool more, .bool never]) (by simp)⟩, ?_⟩
  (try simp only [Act.put, List.setIfInBounds_toArray, List.set_cons_zero, List.set_cons_succ])
  iterate 2 (refine Ch.pure (v := ?_) (by rfl) (by rfl) (by rfl) (fun wx hS => ?_) ?_; rotate_left; (focus (go_simp; (first | done | with_reducible rfl))); (try simp only [Act.put, List.setIfInBounds_toArray, List.set_cons_zero, List.set_cons_succ]))
  iterate 1 (refine Ch.pure (v := ?_) (by rfl) (by rfl) (by rfl) (fun wx hS => ?_) ?_; rotate_left; (focus (go_simp; (first | done | with_reducible rfl))); (try simp only [Act.put, List.setIfInBounds_toArray, List.set_cons_zero, List.set_cons_succ]))
  refine Ch.noise (by rfl) (by rfl) (by rfl) (Se.sow 4 (vs := [.int .i64 q'.tries, .slice A' q'.l.length c']) hs rfl rfl rfl rfl (by simp [Value.oneCell']) (by kernel_rfl) rfl ?_)
  clear hs
  intro w hs
  simp only [List.set_cons_zero, List.set_cons_succ] at hs
  refine ⟨⟨hs.hold (.blk g23 59 [.int .i64 q'.tries, .slice A' q'.l.length c']) (by simp), hs.hold (.blk g5 43 [.int .i64 7, .int .i64 i, .int .i64 gr, .int .i64 sta, .int .i64 by', .int .i64 tr, .int .u8 ty, .int .u8 code, .bool more, .bool never]) (by simp)⟩, ?_⟩
  (try simp only [Act.put, List.setIfInBounds_toArray, List.set_cons_zero, List.set_cons_succ])
  iterate 1 (refine Ch.pure (v := ?_) (by rfl) (by rfl) (by rfl) (fun wx hS => ?_) ?_; rotate_left; (focus (go_simp; (first | done | with_reducible rfl))); (try simp only [Act.put, List.setIfInBounds_toArray, List.set_cons_zero, List.set_cons_succ]))
  refine Ch.done ?_
  simp only [List.drop_succ_cons, List.drop_zero]
  go_wp2_with fail
  refine Se.ret hs [.pointer _, rv _ _ _, .bool true] rfl ⟨rfl, Se.resRow rfl (Reads.blk 4 rfl) (by kernel_rfl) (by kernel_rfl), rfl, trivial⟩ (by simp) rfl ?_
  exact ⟨_, _, _, _, A', c', rfl, hs.sub (by repeat (first | exact List.Sublist.refl _ | refine List.Sublist.cons_cons _ ?_ | refine List.Sublist.cons _ ?_))⟩
set_option maxRecDepth 100000 in
set_option maxHeartbeats 8000000 in
theorem act_8 (hs : St w0 X (pD D (some ⟨g, off, none⟩) c1 (mapP q) :: pG g off c1 (mapP q) :: L) w) (hm : At.rd A (cells q.l) ∈ L) (hq : OkP q) (i gr sta by' tr ty code : Int) (more never : Bool) (hS : okSt ⟨ty, code, more, never⟩) :
    Calls Try.prog 26 #[.pointer (some ⟨D, 0, none⟩), rv q A c, .agg #[.int .i64 8, .int .i64 i, .int .i64 gr, .int .i64 sta, .int .i64 by', .int .i64 tr, .int .u8 ty, .int .u8 code, .bool more, .bool never]] w fun e w' => ∃ D' g' off' c1' A' c', e = .returned (.tuple #[.pointer (some ⟨D', 0, none⟩), rv ((route q i gr ⟨ty, code, more, never⟩ tr).1) A' c', .bool true]) ∧ St w0 X (pD D' (some ⟨g', off', none⟩) c1' (mapP ((route q i gr ⟨ty, code, more, never⟩ tr).1)) :: pG g' off' c1' (mapP ((route q i gr ⟨ty, code, more, never⟩ tr).1)) :: .rd A' (cells ((route q i gr ⟨ty, code, more, never⟩ tr).1).l) :: L) w' := by
  have HM := Lib.hid hm
  have HQ := Lib.hid hq
  have HQm := Lib.hid hq.map
  have HS := Lib.hid hS
  clear hm hq hS
  obtain ⟨q', n, a, y, hy⟩ : ∃ q' n a y, route q i gr ⟨ty, code, more, never⟩ tr = (q', n, a, y) := ⟨_, _, _, _, rfl⟩
  have H1 := Lib.hid hy
  have H2 := Lib.hid (show route (mapP q) i gr ⟨ty, code, more, never⟩ tr = (mapP q', n, a, y) by rw [route_map, hy])
  rw [hy]
  clear hy
  go_enter Try.func26, Try.ntmps26
  go_upto_region 26 with (first | ((with_reducible refine Se.isL (o := ⟨some 7, _, _, _, _, _⟩) ?_); (refine Se.toL rfl (Se.al (o := ⟨some 7, _, _, _, _, _⟩) hs rfl (rfl) ?_); clear hs; rintro w g7 - hs)) | ((with_reducible refine Se.isL (o := ⟨some 32, _, _, _, _, _⟩) ?_); (refine Se.toL rfl (Se.ld (o := ⟨some 32, _, _, _, _, _⟩) hs rfl rfl (Cell.blk 1 rfl rfl) (by kernel_rfl) ?_))) | ((with_reducible refine Se.isL (o := ⟨some 182, _, _, _, _, _⟩) ?_); (refine Se.toL rfl (Se.ldw (o := ⟨some 182, _, _, _, _, _⟩) hs rfl rfl ((Reads.blk 2 rfl)) ((by kernel_rfl)) (by kernel_rfl) ?_))) | ((with_reducible refine Se.isL (o := ⟨some 184, _, _, _, _, _⟩) ?_); (refine Se.toL rfl (Se.ld (o := ⟨some 184, _, _, _, _, _⟩) hs rfl rfl (Cell.blk 1 rfl rfl) (by kernel_rfl) ?_))) | ((with_reducible refine Se.isL (o := ⟨some 186, _, _, _, _, _⟩) ?_); (refine Se.toL rfl (Se.ld (o := ⟨some 186, _, _, _, _, _⟩) hs rfl rfl (Cell.blk 1 rfl rfl) (by kernel_rfl) ?_))) | ((with_reducible refine Se.isL (o := ⟨some 188, _, _, _, _, _⟩) ?_); (refine Se.toL rfl (Se.ldw (o := ⟨some 188, _, _, _, _, _⟩) hs rfl rfl ((Reads.blkAt (ys := [.int .u8 ty, .int .u8 code, .bool more, .bool never]) 1 rfl 6 rfl)) ((by kernel_rfl)) (by kernel_rfl) ?_))) | ((with_reducible refine Se.isL (o := ⟨some 190, _, _, _, _, _⟩) ?_); (refine Se.toL rfl (Se.ld (o := ⟨some 190, _, _, _, _, _⟩) hs rfl rfl (Cell.blk 1 rfl rfl) (by kernel_rfl) ?_))) | ((with_reducible refine Se.isL (o := ⟨some 25, _, _, _, _, _⟩) ?_); (refine Se.toL rfl (Se.al (o := ⟨some 25, _, _, _, _, _⟩) hs rfl (rfl) ?_); clear hs; rintro w g25 - hs)) | ((with_reducible refine Se.isL (o := ⟨none, Op.store 59 _ _, _, _, _, _⟩) ?_); (refine Se.toL rfl (Se.sow 0 hs rfl rfl rfl rfl ((by simp [Value.oneCell'])) ((by kernel_rfl)) (rfl) ?_); clear hs; intro w hs; try simp only [List.set_cons_zero] at hs)) | ((first | with_reducible refine Se.ab hs ?_ | with_reducible refine Se.abc hs ?_); clear hs; (first | ((fail_if_success (have _q := g4)); generalize w.heap.size = g4; intro w hs) | (generalize w.heap.size = g5; intro w hs))) | (go_at_call 50; refine Calls.mono (rRoute_st' hs (by simp only [List.mem_cons, HM.out, or_true]) HQ.out i gr ⟨ty, code, more, never⟩ HS.out tr H1.out) ?_; clear hs; rintro e w ⟨A', c', rfl, hs⟩))
  refine Ch.region' 18 (fun wx => Li.Blk wx g25 [.int .i64 q'.tries, .slice A' q'.l.length c'] 59 ∧ Li.Blk wx g5 [.int .i64 8, .int .i64 i, .int .i64 gr, .int .i64 sta, .int .i64 by', .int .i64 tr, .int .u8 ty, .int .u8 code, .bool more, .bool never] 43) (fun | 14 => true | 16 => true | _ => false) (by kernel_rfl) (by decide +kernel) (⟨hs.hold (.blk g25 59 [.int .i64 q'.tries, .slice A' q'.l.length c']) (by simp), hs.hold (.blk g5 43 [.int .i64 8, .int .i64 i, .int .i64 gr, .int .i64 sta, .int .i64 by', .int .i64 tr, .int .u8 ty, .int .u8 code, .bool more, .bool never]) (by simp)⟩) ?_
  replace hs := hs.drew
  generalize w.drew = w at hs ⊢
  change Ch.CW _ _ _ _ _ [0, 1, 2, 3, 4, 5, 6, 7, 8, 9, 10, 11, 12, 13, 14, 15, 16, 17] _ _
  iterate 14 ((first | (refine Ch.pure (v := ?_) (by rfl) (by rfl) (by rfl) (fun wx hS => ?_) ?_; rotate_left; (focus (go_simp; (first | done | with_reducible rfl)))) | refine Ch.pure (v := _) (by rfl) (by rfl) (by rfl) (fun wx hS => Se.xla rfl rfl (Li.Rd.of_blk (hS.1)) (by kernel_rfl) (by decide +kernel)) ?_ | refine Ch.pure (v := _) (by rfl) (by rfl) (by rfl) (fun wx hS => Se.xl rfl rfl (by rw [(hS.2).cell]; rfl) (by decide +kernel)) ?_ | refine Ch.pure (v := _) (by rfl) (by rfl) (by rfl) (fun wx hS => Se.xla rfl rfl (show Li.Rd wx (some ⟨g5, 6, none⟩) [.int .u8 ty, .int .u8 code, .bool more, .bool never] from Se.Rd.drop' (Li.Rd.of_blk hS.2) 6) (by kernel_rfl) (by kernel_rfl)) ?_); (try simp only [Act.put, List.setIfInBounds_toArray, List.set_cons_zero, List.set_cons_succ]))
  refine Ch.noise (by rfl) (by rfl) (by rfl) ?_
  refine Se.gcall (f := 17) (args := #[.pointer (some ⟨D, 0, none⟩), .int .i64 i, .int .i64 gr, stv ⟨ty, code, more, never⟩, .int .i64 tr, .int .i64 n, .int .i64 a, .int .i64 y]) ?_ ?_
  · go_simp
  refine Calls.mono (routes_t hs.u25 HQm.out i gr ⟨ty, code, more, never⟩ tr H2.out) ?_
  clear hs
  rintro e w ⟨rfl, hs⟩
  refine ⟨_, rfl, ⟨hs.hold (.blk g25 59 [.int .i64 q'.tries, .slice A' q'.l.length c']) (by simp), hs.hold (.blk g5 43 [.int .i64 8, .int .i64 i, .int .i64 gr, .int .i64 sta, .int .i64 by', .int .i64 tr, .int .u8 ty, .int .u8 code, .bool more, .bool never]) (by simp)⟩, ?_⟩
  (try simp only [Act.put, List.setIfInBounds_toArray, List.set_cons_zero, List.set_cons_succ])
  iterate 1 (refine Ch.pure (v := ?_) (by rfl) (by rfl) (by rfl) (fun wx hS => ?_) ?_; rotate_left; (focus (go_simp; (first | done | with_reducible rfl))); (try simp only [Act.put, List.setIfInBounds_toArray, List.set_cons_zero, List.set_cons_succ]))
  refine Ch.noise (by rfl) (by rfl) (by rfl) (Se.sow 4 (vs := [.int .i64 q'.tries, .slice A' q'.l.length c']) hs rfl rfl rfl rfl (by simp [Value.oneCell']) (by kernel_rfl) rfl ?_)
  clear hs
  intro w hs
  simp only [List.set_cons_zero, List.set_cons_succ] at hs
  refine ⟨⟨hs.hold (.blk g25 59 [.int .i64 q'.tries, .slice A' q'.l.length c']) (by simp), hs.hold (.blk g5 43 [.int .i64 8, .int .i64 i, .int .i64 gr, .int .i64 sta, .int .i64 by', .int .i64 tr, .int .u8 ty, .int .u8 code, .bool more, .bool never]) (by simp)⟩, ?_⟩
  (try simp only [Act.put, List.setIfInBounds_toArray, List.set_cons_zero, List.set_cons_succ])
  iterate 1 (refine Ch.pure (v := ?_) (by rfl) (by rfl) (by rfl) (fun wx hS => ?_) ?_; rotate_left; (focus (go_simp; (first | done | with_reducible rfl))); (try simp only [Act.put, List.setIfInBounds_toArray, List.set_cons_zero, List.set_cons_succ]))
  refine Ch.done ?_
  simp only [List.drop_succ_cons, List.drop_zero]
  go_wp2_with fail
  refine Se.ret hs [.pointer _, rv _ _ _, .bool true] rfl ⟨rfl, Se.resRow rfl (Reads.blk 4 rfl) (by kernel_rfl) (by kernel_rfl), rfl, trivial⟩ (by simp) rfl ?_
  exact ⟨_, _, _, _, A', c', rfl, hs.sub (by repeat (first | exact List.Sublist.refl _ | refine List.Sublist.cons_cons _ ?_ | refine List.Sublist.cons _ ?_))⟩
set_option maxRecDepth 100000 in
set_option maxHeartbeats 8000000 in
theorem act_9 (hs : St w0 X (pD D (some ⟨g, off, none⟩) c1 (mapP q) :: pG g off c1 (mapP q) :: L) w) (hm : At.rd A (cells q.l) ∈ L) (hq : OkP q) (i gr sta by' tr ty code : Int) (more never : Bool) (hS : okSt ⟨ty, code, more, never⟩) :
    Calls Try.prog 26 #[.pointer (some ⟨D, 0, none⟩), rv q A c, .agg #[.int .i64 9, .int .i64 i, .int .i64 gr, .int .i64 sta, .int .i64 by', .int .i64 tr, .int .u8 ty, .int .u8 code, .bool more, .bool never]] w fun e w' => ∃ D' g' off' c1' A' c', e = .returned (.tuple #[.pointer (some ⟨D', 0, none⟩), rv ((route q i gr ⟨ty, code, more, never⟩ tr).1) A' c', .bool true]) ∧ St w0 X (pD D' (some ⟨g', off', none⟩) c1' (mapP ((route q i gr ⟨ty, code, more, never⟩ tr).1)) :: pG g' off' c1' (mapP ((route q i gr ⟨ty, code, more, never⟩ tr).1)) :: .rd A' (cells ((route q i gr ⟨ty, code, more, never⟩ tr).1).l) :: L) w' := by
  have HM := Lib.hid hm
  have HQ := Lib.hid hq
  have HQm := Lib.hid hq.map
  have HS := Lib.hid hS
  clear hm hq hS
  obtain ⟨q', n, a, y, hy⟩ : ∃ q' n a y, route q i gr ⟨ty, code, more, never⟩ tr = (q', n, a, y) := ⟨_, _, _, _, rfl⟩
  have H1 := Lib.hid hy
  have H2 := Lib.hid (show route (mapP q) i gr ⟨ty, code, more, never⟩ tr = (mapP q', n, a, y) by rw [route_map, hy])
  rw [hy]
  clear hy
  go_enter Try.func26, Try.ntmps26
  go_upto_region 26 with (first | ((with_reducible refine Se.isL (o := ⟨some 7, _, _, _, _, _⟩) ?_); (refine Se.toL rfl (Se.al (o := ⟨some 7, _, _, _, _, _⟩) hs rfl (rfl) ?_); clear hs; rintro w g7 - hs)) | ((with_reducible refine Se.isL (o := ⟨some 32, _, _, _, _, _⟩) ?_); (refine Se.toL rfl (Se.ld (o := ⟨some 32, _, _, _, _, _⟩) hs rfl rfl (Cell.blk 1 rfl rfl) (by kernel_rfl) ?_))) | ((with_reducible refine Se.isL (o := ⟨some 182, _, _, _, _, _⟩) ?_); (refine Se.toL rfl (Se.ldw (o := ⟨some 182, _, _, _, _, _⟩) hs rfl rfl ((Reads.blk 2 rfl)) ((by kernel_rfl)) (by kernel_rfl) ?_))) | ((with_reducible refine Se.isL (o := ⟨some 184, _, _, _, _, _⟩) ?_); (refine Se.toL rfl (Se.ld (o := ⟨some 184, _, _, _, _, _⟩) hs rfl rfl (Cell.blk 1 rfl rfl) (by kernel_rfl) ?_))) | ((with_reducible refine Se.isL (o := ⟨some 186, _, _, _, _, _⟩) ?_); (refine Se.toL rfl (Se.ld (o := ⟨some 186, _, _, _, _, _⟩) hs rfl rfl (Cell.blk 1 rfl rfl) (by kernel_rfl) ?_))) | ((with_reducible refine Se.isL (o := ⟨some 188, _, _, _, _, _⟩) ?_); (refine Se.toL rfl (Se.ldw (o := ⟨some 188, _, _, _, _, _⟩) hs rfl rfl ((Reads.blkAt (ys := [.int .u8 ty, .int .u8 code, .bool more, .bool never]) 1 rfl 6 rfl)) ((by kernel_rfl)) (by kernel_rfl) ?_))) | ((with_reducible refine Se.isL (o := ⟨some 190, _, _, _, _, _⟩) ?_); (refine Se.toL rfl (Se.ld (o := ⟨some 190, _, _, _, _, _⟩) hs rfl rfl (Cell.blk 1 rfl rfl) (by kernel_rfl) ?_))) | ((with_reducible refine Se.isL (o := ⟨some 25, _, _, _, _, _⟩) ?_); (refine Se.toL rfl (Se.al (o := ⟨some 25, _, _, _, _, _⟩) hs rfl (rfl) ?_); clear hs; rintro w g25 - hs)) | ((with_reducible refine Se.isL (o := ⟨none, Op.store 59 _ _, _, _, _, _⟩) ?_); (refine Se.toL rfl (Se.sow 0 hs rfl rfl rfl rfl ((by simp [Value.oneCell'])) ((by kernel_rfl)) (rfl) ?_); clear hs; intro w hs; try simp only [List.set_cons_zero] at hs)) | ((first | with_reducible refine Se.ab hs ?_ | with_reducible refine Se.abc hs ?_); clear hs; (first | ((fail_if_success (have _q := g4)); generalize w.heap.size = g4; intro w hs) | (generalize w.heap.size = g5; intro w hs))) | (go_at_call 50; refine Calls.mono (rRoute_st' hs (by simp only [List.mem_cons, HM.out, or_true]) HQ.out i gr ⟨ty, code, more, never⟩ HS.out tr H1.out) ?_; clear hs; rintro e w ⟨A', c', rfl, hs⟩))
  refine Ch.region' 18 (fun wx => Li.Blk wx g25 [.int .i64 q'.tries, .slice A' q'.l.length c'] 59 ∧ Li.Blk wx g5 [.int .i64 9, .int .i64 i, .int .i64 gr, .int .i64 sta, .int .i64 by', .int .i64 tr, .int .u8 ty, .int .u8 code, .bool more, .bool never] 43) (fun | 14 => true | 16 => true | _ => false) (by kernel_rfl) (by decide +kernel) (⟨hs.hold (.blk g25 59 [.int .i64 q'.tries, .slice A' q'.l.length c']) (by simp), hs.hold (.blk g5 43 [.int .i64 9, .int .i64 i, .int .i64 gr, .int .i64 sta, .int .i64 by', .int .i64 tr, .int .u8 ty, .int .u8 code, .bool more, .bool never]) (by simp)⟩) ?_
  replace hs := hs.drew
  generalize w.drew = w at hs ⊢
  change Ch.CW _ _ _ _ _ [0, 1, 2, 3, 4, 5, 6, 7, 8, 9, 10, 11, 12, 13, 14, 15, 16, 17] _ _
  iterate 14 ((first | (refine Ch.pure (v := ?_) (by rfl) (by rfl) (by rfl) (fun wx hS => ?_) ?_; rotate_left; (focus (go_simp; (first | done | with_reducible rfl)))) | refine Ch.pure (v := _) (by rfl) (by rfl) (by rfl) (fun wx hS => Se.xla rfl rfl (Li.Rd.of_blk (hS.1)) (by kernel_rfl) (by decide +kernel)) ?_ | refine Ch.pure (v := _) (by rfl) (by rfl) (by rfl) (fun wx hS => Se.xl rfl rfl (by rw [(hS.2).cell]; rfl) (by decide +kernel)) ?_ | refine Ch.pure (v := _) (by rfl) (by rfl) (by rfl) (fun wx hS => Se.xla rfl rfl (show Li.Rd wx (some ⟨g5, 6, none⟩) [.int .u8 ty, .int .u8 code, .bool more, .bool never] from Se.Rd.drop' (Li.Rd.of_blk hS.2) 6) (by kernel_rfl) (by kernel_rfl)) ?_); (try simp only [Act.put, List.setIfInBounds_toArray, List.set_cons_zero, List.set_cons_succ]))
  refine Ch.noise (by rfl) (by rfl) (by rfl) ?_
  refine Se.gcall (f := 17) (args := #[.pointer (some ⟨D, 0, none⟩), .int .i64 i, .int .i64 gr, stv ⟨ty, code, more, never⟩, .int .i64 tr, .int .i64 n, .int .i64 a, .int .i64 y]) ?_ ?_
  · go_simp
  refine Calls.mono (routes_t hs.u25 HQm.out i gr ⟨ty, code, more, never⟩ tr H2.out) ?_
  clear hs
  rintro e w ⟨rfl, hs⟩
  refine ⟨_, rfl, ⟨hs.hold (.blk g25 59 [.int .i64 q'.tries, .slice A' q'.l.length c']) (by simp), hs.hold (.blk g5 43 [.int .i64 9, .int .i64 i, .int .i64 gr, .int .i64 sta, .int .i64 by', .int .i64 tr, .int .u8 ty, .int .u8 code, .bool more, .bool never]) (by simp)⟩, ?_⟩
  (try simp only [Act.put, List.setIfInBounds_toArray, List.set_cons_zero, List.set_cons_succ])
  iterate 1 (refine Ch.pure (v := ?_) (by rfl) (by rfl) (by rfl) (fun wx hS => ?_) ?_; rotate_left; (focus (go_simp; (first | done | with_reducible rfl))); (try simp only [Act.put, List.setIfInBounds_toArray, List.set_cons_zero, List.set_cons_succ]))
  refine Ch.noise (by rfl) (by rfl) (by rfl) (Se.sow 4 (vs := [.int .i64 q'.tries, .slice A' q'.l.length c']) hs rfl rfl rfl rfl (by simp [Value.oneCell']) (by kernel_rfl) rfl ?_)
  clear hs
  intro w hs
  simp only [List.set_cons_zero, List.set_cons_succ] at hs
  refine ⟨⟨hs.hold (.blk g25 59 [.int .i64 q'.tries, .slice A' q'.l.length c']) (by simp), hs.hold (.blk g5 43 [.int .i64 9, .int .i64 i, .int .i64 gr, .int .i64 sta, .int .i64 by', .int .i64 tr, .int .u8 ty, .int .u8 code, .bool more, .bool never]) (by simp)⟩, ?_⟩
  (try simp only [Act.put, List.setIfInBounds_toArray, List.set_cons_zero, List.set_cons_succ])
  iterate 1 (refine Ch.pure (v := ?_) (by rfl) (by rfl) (by rfl) (fun wx hS => ?_) ?_; rotate_left; (focus (go_simp; (first | done | with_reducible rfl))); (try simp only [Act.put, List.setIfInBounds_toArray, List.set_cons_zero, List.set_cons_succ]))
  refine Ch.done ?_
  simp only [List.drop_succ_cons, List.drop_zero]
  go_wp2_with fail
  refine Se.ret hs [.pointer _, rv _ _ _, .bool true] rfl ⟨rfl, Se.resRow rfl (Reads.blk 4 rfl) (by kernel_rfl) (by kernel_rfl), rfl, trivial⟩ (by simp) rfl ?_
  exact ⟨_, _, _, _, A', c', rfl, hs.sub (by repeat (first | exact List.Sublist.refl _ | refine List.Sublist.cons_cons _ ?_ | refine List.Sublist.cons _ ?_))⟩
set_option maxRecDepth 100000 in
set_option maxHeartbeats 8000000 in
theorem act_10 (hs : St w0 X (pD D (some ⟨g, off, none⟩) c1 (mapP q) :: pG g off c1 (mapP q) :: L) w) (hm : At.rd A (cells q.l) ∈ L) (hq : OkP q) (i gr sta by' tr ty code : Int) (more never : Bool) (hS : okSt ⟨ty, code, more, never⟩) :
    Calls Try.prog 26 #[.pointer (some ⟨D, 0, none⟩), rv q A c, .agg #[.int .i64 10, .int .i64 i, .int .i64 gr, .int .i64 sta, .int .i64 by', .int .i64 tr, .int .u8 ty, .int .u8 code, .bool more, .bool never]] w fun e w' => ∃ D' g' off' c1' A' c', e = .returned (.tuple #[.pointer (some ⟨D', 0, none⟩), rv (q) A' c', .bool true]) ∧ St w0 X (pD D' (some ⟨g', off', none⟩) c1' (mapP (q)) :: pG g' off' c1' (mapP (q)) :: .rd A' (cells (q).l) :: L) w' := by
  have HM := Lib.hid hm
  have HQ := Lib.hid hq
  have HQm := Lib.hid hq.map
  have HS := Lib.hid hS
  clear hm hq hS
  obtain ⟨n, y, hy⟩ : ∃ n y, pick q gr = (n, y) := ⟨_, _, rfl⟩
  have H1 := Lib.hid hy
  have H2 := Lib.hid (show pick (mapP q) gr = (n, y) by rw [pick_map, hy])
  clear hy
  go_enter Try.func26, Try.ntmps26
  go_upto_region 29 with (first | ((with_reducible refine Se.isL (o := ⟨some 7, _, _, _, _, _⟩) ?_); (refine Se.toL rfl (Se.al (o := ⟨some 7, _, _, _, _, _⟩) hs rfl (rfl) ?_); clear hs; rintro w g7 - hs)) | ((with_reducible refine Se.isL (o := ⟨some 32, _, _, _, _, _⟩) ?_); (refine Se.toL rfl (Se.ld (o := ⟨some 32, _, _, _, _, _⟩) hs rfl rfl (Cell.blk 1 rfl rfl) (by kernel_rfl) ?_))) | ((with_reducible refine Se.isL (o := ⟨some 214, _, _, _, _, _⟩) ?_); (refine Se.toL rfl (Se.ldw (o := ⟨some 214, _, _, _, _, _⟩) hs rfl rfl ((Reads.blk 2 rfl)) ((by kernel_rfl)) (by kernel_rfl) ?_))) | ((with_reducible refine Se.isL (o := ⟨some 216, _, _, _, _, _⟩) ?_); (refine Se.toL rfl (Se.ld (o := ⟨some 216, _, _, _, _, _⟩) hs rfl rfl (Cell.blk 1 rfl rfl) (by kernel_rfl) ?_))) | ((first | with_reducible refine Se.ab hs ?_ | with_reducible refine Se.abc hs ?_); clear hs; (first | ((fail_if_success (have _q := g4)); generalize w.heap.size = g4; intro w hs) | (generalize w.heap.size = g5; intro w hs))) | (go_at_call 51; refine Calls.mono (rPick_st' hs (by simp only [List.mem_cons, HM.out, or_true]) HQ.out gr H1.out) ?_; clear hs; rintro e w ⟨rfl, hs⟩))
  refine Ch.region' 11 (fun wx => Li.Blk wx g4 [.int .i64 q.tries, .slice A q.l.length c] 59 ∧ Li.Blk wx g5 [.int .i64 10, .int .i64 i, .int .i64 gr, .int .i64 sta, .int .i64 by', .int .i64 tr, .int .u8 ty, .int .u8 code, .bool more, .bool never] 43) (fun | 7 => true | 9 => true | _ => false) (by kernel_rfl) (by decide +kernel) (⟨hs.hold (.blk g4 59 [.int .i64 q.tries, .slice A q.l.length c]) (by simp), hs.hold (.blk g5 43 [.int .i64 10, .int .i64 i, .int .i64 gr, .int .i64 sta, .int .i64 by', .int .i64 tr, .int .u8 ty, .int .u8 code, .bool more, .bool never]) (by simp)⟩) ?_
  replace hs := hs.drew
  generalize w.drew = w at hs ⊢
  change Ch.CW _ _ _ _ _ [0, 1, 2, 3, 4, 5, 6, 7, 8, 9, 10] _ _
  iterate 7 ((first | (refine Ch.pure (v := ?_) (by rfl) (by rfl) (by rfl) (fun wx hS => ?_) ?_; rotate_left; (focus (go_simp; (first | done | with_reducible rfl)))) | refine Ch.pure (v := _) (by rfl) (by rfl) (by rfl) (fun wx hS => Se.xla rfl rfl (Li.Rd.of_blk (hS.1)) (by kernel_rfl) (by decide +kernel)) ?_ | refine Ch.pure (v := _) (by rfl) (by rfl) (by rfl) (fun wx hS => Se.xl rfl rfl (by rw [(hS.2).cell]; rfl) (by decide +kernel)) ?_); (try simp only [Act.put, List.setIfInBounds_toArray, List.set_cons_zero, List.set_cons_succ]))
  refine Ch.noise (by rfl) (by rfl) (by rfl) ?_
  refine Se.gcall (f := 16) (args := #[.pointer (some ⟨D, 0, none⟩), .int .i64 gr, .int .i64 n, .int .i64 y]) ?_ ?_
  · go_simp
  refine Calls.mono (picks_t hs.u23 HQm.out gr H2.out) ?_
  clear hs
  rintro e w ⟨rfl, hs⟩
  refine ⟨_, rfl, ⟨hs.hold (.blk g4 59 [.int .i64 q.tries, .slice A q.l.length c]) (by simp), hs.hold (.blk g5 43 [.int .i64 10, .int .i64 i, .int .i64 gr, .int .i64 sta, .int .i64 by', .int .i64 tr, .int .u8 ty, .int .u8 code, .bool more, .bool never]) (by simp)⟩, ?_⟩
  (try simp only [Act.put, List.setIfInBounds_toArray, List.set_cons_zero, List.set_cons_succ])
  iterate 1 (refine Ch.pure (v := ?_) (by rfl) (by rfl) (by rfl) (fun wx hS => ?_) ?_; rotate_left; (focus (go_simp; (first | done | with_reducible rfl))); (try simp only [Act.put, List.setIfInBounds_toArray, List.set_cons_zero, List.set_cons_succ]))
  refine Ch.noise (by rfl) (by rfl) (by rfl) (Se.sow 2 (vs := [.int .i64 q.tries, .slice A q.l.length c]) hs rfl rfl rfl rfl (by simp [Value.oneCell']) (by kernel_rfl) rfl ?_)
  clear hs
  intro w hs
  simp only [List.set_cons_zero, List.set_cons_succ] at hs
  refine ⟨⟨hs.hold (.blk g4 59 [.int .i64 q.tries, .slice A q.l.length c]) (by simp), hs.hold (.blk g5 43 [.int .i64 10, .int .i64 i, .int .i64 gr, .int .i64 sta, .int .i64 by', .int .i64 tr, .int .u8 ty, .int .u8 code, .bool more, .bool never]) (by simp)⟩, ?_⟩
  (try simp only [Act.put, List.setIfInBounds_toArray, List.set_cons_zero, List.set_cons_succ])
  iterate 1 (refine Ch.pure (v := ?_) (by rfl) (by rfl) (by rfl) (fun wx hS => ?_) ?_; rotate_left; (focus (go_simp; (first | done | with_reducible rfl))); (try simp only [Act.put, List.setIfInBounds_toArray, List.set_cons_zero, List.set_cons_succ]))
  refine Ch.done ?_
  simp only [List.drop_succ_cons, List.drop_zero]
  go_wp2_with fail
  refine Se.ret hs [.pointer _, rv _ _ _, .bool true] rfl ⟨rfl, Se.resRow rfl (Reads.blk 2 rfl) (by kernel_rfl) (by kernel_rfl), rfl, trivial⟩ (by simp) rfl ?_
  exact ⟨_, _, _, _, A, c, rfl, ((hs.sub (by repeat (first | exact List.Sublist.refl _ | refine List.Sublist.cons_cons _ ?_ | refine List.Sublist.cons _ ?_)) : St w0 X (_ :: _ :: L) w).dup (A := A) (xs := cells q.l) (by simp only [List.mem_cons, HM.out, or_true])).u21⟩
set_option maxRecDepth 100000 in
set_option maxHeartbeats 8000000 in
theorem act_w (hs : St w0 X (pD D (some ⟨g, off, none⟩) c1 (mapP q) :: pG g off c1 (mapP q) :: L) w) (hm : At.rd A (cells q.l) ∈ L) (hq : OkP q) (what i gr sta by' tr ty code : Int) (more never : Bool) (hS : okSt ⟨ty, code, more, never⟩) (hw : what ≠ 0 ∧ what ≠ 1 ∧ what ≠ 2 ∧ what ≠ 3 ∧ what ≠ 4 ∧ what ≠ 5 ∧ what ≠ 6 ∧ what ≠ 7 ∧ what ≠ 8 ∧ what ≠ 9 ∧ what ≠ 10) :
    Calls Try.prog 26 #[.pointer (some ⟨D, 0, none⟩), rv q A c, .agg #[.int .i64 what, .int .i64 i, .int .i64 gr, .int .i64 sta, .int .i64 by', .int .i64 tr, .int .u8 ty, .int .u8 code, .bool more, .bool never]] w fun e w' => ∃ D' g' off' c1' A' c', e = .returned (.tuple #[.pointer (some ⟨D', 0, none⟩), rv (q) A' c', .bool true]) ∧ St w0 X (pD D' (some ⟨g', off', none⟩) c1' (mapP (q)) :: pG g' off' c1' (mapP (q)) :: .rd A' (cells (q).l) :: L) w' := by
  have HM := Lib.hid hm
  have HQ := Lib.hid hq
  have HQm := Lib.hid hq.map
  have HS := Lib.hid hS
  clear hm hq hS
  obtain ⟨n0, n1, n2, n3, n4, n5, n6, n7, n8, n9, n10⟩ := hw
  have n0 := beq_eq_false_iff_ne.2 n0; have n1 := beq_eq_false_iff_ne.2 n1; have n2 := beq_eq_false_iff_ne.2 n2; have n3 := beq_eq_false_iff_ne.2 n3; have n4 := beq_eq_false_iff_ne.2 n4; have n5 := beq_eq_false_iff_ne.2 n5; have n6 := beq_eq_false_iff_ne.2 n6; have n7 := beq_eq_false_iff_ne.2 n7; have n8 := beq_eq_false_iff_ne.2 n8; have n9 := beq_eq_false_iff_ne.2 n9; have n10 := beq_eq_false_iff_ne.2 n10
  go_enter Try.func26, Try.ntmps26
  go_upto_region 30 with (first | ((with_reducible refine Se.isL (o := ⟨some 7, _, _, _, _, _⟩) ?_); (refine Se.toL rfl (Se.al (o := ⟨some 7, _, _, _, _, _⟩) hs rfl (rfl) ?_); clear hs; rintro w g7 - hs)) | ((with_reducible refine Se.isL (o := ⟨some 32, _, _, _, _, _⟩) ?_); (refine Se.toL rfl (Se.ld (o := ⟨some 32, _, _, _, _, _⟩) hs rfl rfl (Cell.blk 1 rfl rfl) (by kernel_rfl) ?_))) | ((first | with_reducible refine Se.ab hs ?_ | with_reducible refine Se.abc hs ?_); clear hs; (first | ((fail_if_success (have _q := g4)); generalize w.heap.size = g4; intro w hs) | (generalize w.heap.size = g5; intro w hs))))
  refine Ch.region' 6 (fun wx => Li.Blk wx g4 [.int .i64 q.tries, .slice A q.l.length c] 59 ∧ Li.Blk wx g5 [.int .i64 what, .int .i64 i, .int .i64 gr, .int .i64 sta, .int .i64 by', .int .i64 tr, .int .u8 ty, .int .u8 code, .bool more, .bool never] 43) (fun | 1 => true | 4 => true | _ => false) (by kernel_rfl) (by decide +kernel) (⟨hs.hold (.blk g4 59 [.int .i64 q.tries, .slice A q.l.length c]) (by simp), hs.hold (.blk g5 43 [.int .i64 what, .int .i64 i, .int .i64 gr, .int .i64 sta, .int .i64 by', .int .i64 tr, .int .u8 ty, .int .u8 code, .bool more, .bool never]) (by simp)⟩) ?_
  replace hs := hs.drew
  generalize w.drew = w at hs ⊢
  change Ch.CW _ _ _ _ _ [0, 1, 2, 3, 4, 5] _ _
  iterate 1 (refine Ch.pure (v := ?_) (by rfl) (by rfl) (by rfl) (fun wx hS => ?_) ?_; rotate_left; (focus (go_simp; (first | done | with_reducible rfl))); (try simp only [Act.put, List.setIfInBounds_toArray, List.set_cons_zero, List.set_cons_succ]))
  refine Ch.noise (by rfl) (by rfl) (by rfl) ?_
  refine Se.gcall (f := 28) (args := #[.pointer (some ⟨D, 0, none⟩)]) ?_ ?_
  · go_simp
  refine Calls.mono (copy_st hs.u23 HQm.out) ?_
  clear hs
  rintro e w ⟨D', g', off', c', rfl, hs⟩
  refine ⟨_, rfl, ⟨hs.hold (.blk g4 59 [.int .i64 q.tries, .slice A q.l.length c]) (by simp), hs.hold (.blk g5 43 [.int .i64 what, .int .i64 i, .int .i64 gr, .int .i64 sta, .int .i64 by', .int .i64 tr, .int .u8 ty, .int .u8 code, .bool more, .bool never]) (by simp)⟩, ?_⟩
  (try simp only [Act.put, List.setIfInBounds_toArray, List.set_cons_zero, List.set_cons_succ])
  iterate 1 ((first | (refine Ch.pure (v := ?_) (by rfl) (by rfl) (by rfl) (fun wx hS => ?_) ?_; rotate_left; (focus (go_simp; (first | done | with_reducible rfl)))) | refine Ch.pure (v := _) (by rfl) (by rfl) (by rfl) (fun wx hS => Se.xla rfl rfl (Li.Rd.of_blk (hS.1)) (by kernel_rfl) (by decide +kernel)) ?_); (try simp only [Act.put, List.setIfInBounds_toArray, List.set_cons_zero, List.set_cons_succ]))
  iterate 1 (refine Ch.pure (v := ?_) (by rfl) (by rfl) (by rfl) (fun wx hS => ?_) ?_; rotate_left; (focus (go_simp; (first | done | with_reducible rfl))); (try simp only [Act.put, List.setIfInBounds_toArray, List.set_cons_zero, List.set_cons_succ]))
  refine Ch.noise (by rfl) (by rfl) (by rfl) (Se.sow 4 (vs := [.int .i64 q.tries, .slice A q.l.length c]) hs rfl rfl rfl rfl (by simp [Value.oneCell']) (by kernel_rfl) rfl ?_)
  clear hs
  intro w hs
  simp only [List.set_cons_zero, List.set_cons_succ] at hs
  refine ⟨⟨hs.hold (.blk g4 59 [.int .i64 q.tries, .slice A q.l.length c]) (by simp), hs.hold (.blk g5 43 [.int .i64 what, .int .i64 i, .int .i64 gr, .int .i64 sta, .int .i64 by', .int .i64 tr, .int .u8 ty, .int .u8 code, .bool more, .bool never]) (by simp)⟩, ?_⟩
  (try simp only [Act.put, List.setIfInBounds_toArray, List.set_cons_zero, List.set_cons_succ])
  iterate 1 (refine Ch.pure (v := ?_) (by rfl) (by rfl) (by rfl) (fun wx hS => ?_) ?_; rotate_left; (focus (go_simp; (first | done | with_reducible rfl))); (try simp only [Act.put, List.setIfInBounds_toArray, List.set_cons_zero, List.set_cons_succ]))
  refine Ch.done ?_
  simp only [List.drop_succ_cons, List.drop_zero]
  go_wp2_with fail
  refine Se.ret hs [.pointer _, rv _ _ _, .bool true] rfl ⟨rfl, Se.resRow rfl (Reads.blk 4 rfl) (by kernel_rfl) (by kernel_rfl), rfl, trivial⟩ (by simp) rfl ?_
  exact ⟨_, _, _, _, A, c, rfl, ((hs.sub (by repeat (first | exact List.Sublist.refl _ | refine List.Sublist.cons_cons _ ?_ | refine List.Sublist.cons _ ?_)) : St w0 X (_ :: _ :: L) w).dup (A := A) (xs := cells q.l) (by simp only [List.mem_cons, HM.out, or_true])).u21⟩
theorem act_st (hs : St w0 X (pD D (some ⟨g, off, none⟩) c1 (mapP q) :: pG g off c1 (mapP q) :: L) w) (hm : At.rd A (cells q.l) ∈ L) (hq : OkP q) (a : AA) (ha : okSt a.st) :
    Calls Try.prog 26 #[.pointer (some ⟨D, 0, none⟩), rv q A c, av a] w fun e w' => ∃ D' g' off' c1' A' c', e = .returned (.tuple #[.pointer (some ⟨D', 0, none⟩), rv (actP q a) A' c', .bool true]) ∧ St w0 X (pD D' (some ⟨g', off', none⟩) c1' (mapP (actP q a)) :: pG g' off' c1' (mapP (actP q a)) :: .rd A' (cells (actP q a).l) :: L) w' := by
  obtain ⟨what, i, gr, sta, by', tr, ⟨ty, code, more, never⟩⟩ := a
  by_cases h0 : what = 0
  · subst h0; exact act_0 hs hm hq i gr sta by' tr ty code more never ha
  by_cases h1 : what = 1
  · subst h1; exact act_1 hs hm hq i gr sta by' tr ty code more never ha
  by_cases h2 : what = 2
  · subst h2; exact act_2 hs hm hq i gr sta by' tr ty code more never ha
  by_cases h3 : what = 3
  · subst h3; exact act_3 hs hm hq i gr sta by' tr ty code more never ha
  by_cases h4 : what = 4
  · subst h4; exact act_4 hs hm hq i gr sta by' tr ty code more never ha
  by_cases h5 : what = 5
  · subst h5; exact act_5 hs hm hq i gr sta by' tr ty code more never ha
  by_cases h6 : what = 6
  · subst h6; exact act_6 hs hm hq i gr sta by' tr ty code more never ha
  by_cases h7 : what = 7
  · subst h7; exact act_7 hs hm hq i gr sta by' tr ty code more never ha
  by_cases h8 : what = 8
  · subst h8; exact act_8 hs hm hq i gr sta by' tr ty code more never ha
  by_cases h9 : what = 9
  · subst h9; exact act_9 hs hm hq i gr sta by' tr ty code more never ha
  have e : actP q ⟨what, i, gr, sta, by', tr, ⟨ty, code, more, never⟩⟩ = q := by simp [actP, h0, h1, h2, h3, h4, h5, h6, h7, h8, h9]
  rw [e]
  by_cases h10 : what = 10
  · subst h10; exact act_10 hs hm hq i gr sta by' tr ty code more never ha
  exact act_w hs hm hq what i gr sta by' tr ty code more never ha ⟨h0, h1, h2, h3, h4, h5, h6, h7, h8, h9, h10⟩
theorem act_st' (hs : St w0 X (pD D (some ⟨g, off, none⟩) c1 (mapP q) :: pG g off c1 (mapP q) :: L) w) (hm : At.rd A (cells q.l) ∈ L) (hq : OkP q) (a : AA) (ha : okSt a.st) {q' : PP} (hq' : actP q a = q') :
    Calls Try.prog 26 #[.pointer (some ⟨D, 0, none⟩), rv q A c, av a] w fun e w' => ∃ D' g' off' c1' A' c', e = .returned (.tuple #[.pointer (some ⟨D', 0, none⟩), rv q' A' c', .bool true]) ∧ St w0 X (pD D' (some ⟨g', off', none⟩) c1' (mapP q') :: pG g' off' c1' (mapP q') :: .rd A' (cells q'.l) :: L) w' := hq' ▸ act_st hs hm hq a ha
end Pa
end Go.Proofs.Ytplhelhijjmlaaa

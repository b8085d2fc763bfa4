/- Layer 45: the methods of nil and zero paths. -/
import Derived.Test.YtplhelhijjmlaaaPathWorks
set_option linter.unusedSimpArgs false
set_option linter.unusedVariables false
namespace Go.Proofs.Ytplhelhijjmlaaa
open Go Go.RowKit
namespace Pa
open Se (St At Reads Cell)
attribute [local irreducible] Calls
/-- A pointer of paths that are nil or zero, as long as the pieces L hold. -/
def NoneV (L : List At) (v : Option Addr) : Prop := ∀ L', (∀ a ∈ L, a ∈ L') → ∀ (w0 w : World) (X : List Nat), St w0 X L' w →
  Calls Try.prog 53 #[.pointer v] w fun e w' => e = .returned (.bool true) ∧ St w0 X L' w'
theorem NoneV.mono {L L' : List At} {v : Option Addr} (h : NoneV L v) (hs : ∀ a ∈ L, a ∈ L') : NoneV L' v := fun L2 h2 => h L2 fun a ha => h2 a (hs a ha)
theorem NoneV.st {L : List At} {v : Option Addr} (h : NoneV L v) {w0 w : World} {X : List Nat} (hs : St w0 X L w) :
  Calls Try.prog 53 #[.pointer v] w fun e w' => e = .returned (.bool true) ∧ St w0 X L w' := h L (fun _ h => h) w0 w X hs
set_option maxRecDepth 100000 in
theorem none_nil : NoneV [] none := by
  intro L _ w0 w X hs
  go_enter Try.func53, Try.ntmps53
  go_wp2_with fail
  go_ret
  exact ⟨rfl, hs⟩
abbrev pZ (D : Nat) : At := .blk D 74 [.int .i64 0, .slice none 0 0]
set_option maxRecDepth 100000 in
theorem none_zero (D : Nat) : NoneV [pZ D] (some ⟨D, 0, none⟩) := by
  intro L hL w0 w X hs
  have HC := Lib.hid (show Cell L D 0 (.int .i64 0) from fun w hw => (Cell.blk (L := [pZ D]) 0 rfl rfl) w fun a ha => hw a (hL a ha))
  clear hL
  go_enter Try.func53, Try.ntmps53
  go_wp2_with (first | ((with_reducible refine Se.isL (o := ⟨some 9, _, _, _, _, _⟩) ?_); (refine Se.toL rfl (Se.ld (o := ⟨some 9, _, _, _, _, _⟩) hs rfl rfl (HC.out) (by kernel_rfl) ?_))))
  go_ret
  exact ⟨rfl, hs⟩
section
variable {w0 w : World} {X : List Nat} {L : List At} {v : Option Addr}
set_option maxRecDepth 100000 in
set_option maxHeartbeats 1000000 in
theorem at_no (hN : NoneV L v) (hs : St w0 X L w) (i : Int) (b : Bool) :
    Calls Try.prog 34 #[.pointer v, .int .i64 i, .bool b] w fun e w' => e = .returned (.tuple #[.pointer none, .int .i64 1]) ∧ St w0 X L w' := by
  have HN := Lib.hid hN
  clear hN
  go_enter Try.func34, Try.ntmps34
  go_wp2
  refine wp_scope_jumps 0 (fun a wx => (∃ u3 u4 u5 u6 u8 u9 u10 u11 u12 u13 u14 u15 u16 u17 u18 u19 u20 u21 u22 u23 u24 u25 u26 u27 u28 u29 u30, a = { tmps := #[.pointer v, Value.int .i64 i, Value.bool b, u3, u4, u5, u6, Value.int .i64 1, u8, u9, u10, u11, u12, u13, u14, u15, u16, u17, u18, u19, u20, u21, u22, u23, u24, u25, u26, u27, u28, u29, u30], defers := [] }) ∧ St w0 X L wx) (fun _ _ => 0) rfl ?_ ?_
  · go_wp2_with (first | (go_at_call 53; refine Calls.mono (HN.out.st hs) ?_; clear hs; rintro e w ⟨rfl, hs⟩))
    go_step3
    refine And.intro rfl ?_
    refine ⟨?_, hs⟩
    exact ⟨_, _, _, _, _, _, _, _, _, _, _, _, _, _, _, _, _, _, _, _, _, _, _, _, _, _, _, rfl⟩
  · rintro a w ⟨⟨u3, u4, u5, u6, u8, u9, u10, u11, u12, u13, u14, u15, u16, u17, u18, u19, u20, u21, u22, u23, u24, u25, u26, u27, u28, u29, u30, rfl⟩, hs⟩
    go_wp2
    rw [jump_ret]
    go_ret2
    exact ⟨rfl, hs⟩
set_option maxRecDepth 100000 in
set_option maxHeartbeats 1000000 in
theorem setState_no (hN : NoneV L v) (hs : St w0 X L w) (i gr s : Int) :
    Calls Try.prog 15 #[.pointer v, .int .i64 i, .int .i64 gr, .int .i64 s] w fun e w' => e = .returned (.int .i64 1) ∧ St w0 X L w' := by
  have HN := Lib.hid hN
  clear hN
  have key : (decide (1 ≤ s) = false ∧ s ≤ 4) ∨ (1 ≤ s ∧ s ≤ 4) ∨ s = 15 ∨ (1 ≤ s ∧ decide (s ≤ 4) = false ∧ (s == 15) = false) := by
    simp only [decide_eq_false_iff_not, beq_eq_false_iff_ne]; omega
  rcases key with ⟨h1, h2⟩ | ⟨h1, h2⟩ | rfl | ⟨h1, h2, h3⟩
  all_goals
    go_enter Try.func15, Try.ntmps15
    go_wp2_with (first | ((with_reducible refine Se.isL (o := ⟨some 24, _, _, _, _, _⟩) ?_); (refine Se.toL rfl (Se.bsv (o := ⟨some 24, _, _, _, _, _⟩) hs rfl Try.underlying112 bool_info rfl ([.bool (grp gr), .bool false, .bool true]) (by rfl) (by rfl) (by decide) (by decide) (by simp [Value.oneCell']) ?_); clear hs; rintro w g24 - hs)) | ((with_reducible refine Se.isL (o := ⟨some 24, _, _, _, _, _⟩) ?_); (refine Se.toL rfl (Se.bsv (o := ⟨some 24, _, _, _, _, _⟩) hs rfl Try.underlying112 bool_info rfl ([.bool (grp gr), .bool true, .bool true]) (by rfl) (by rfl) (by decide) (by decide) (by simp [Value.oneCell']) ?_); clear hs; rintro w g24 - hs)) | ((with_reducible refine Se.isL (o := ⟨some 24, _, _, _, _, _⟩) ?_); (refine Se.toL rfl (Se.bsv (o := ⟨some 24, _, _, _, _, _⟩) hs rfl Try.underlying112 bool_info rfl ([.bool (grp gr), .bool true, .bool false]) (by rfl) (by rfl) (by decide) (by decide) (by simp [Value.oneCell']) ?_); clear hs; rintro w g24 - hs)) | (go_at_call 36; refine Calls.mono (group_st hs gr) ?_; clear hs; rintro e w ⟨rfl, hs⟩) | (go_at_call 32; refine Calls.mono (all_st hs [_, _, _] (Reads.blk 0 rfl) rfl (by decide)) ?_; clear hs; rintro e w ⟨rfl, hs⟩) | (go_at_call 34; refine Calls.mono (at_no (HN.out.mono (by intro _ h; simp only [List.mem_cons, h, or_true])) hs i _) ?_; clear hs; rintro e w ⟨rfl, hs⟩))
    go_ret
    exact ⟨rfl, hs.drop⟩
set_option maxRecDepth 100000 in
theorem state_no (hN : NoneV L v) (hs : St w0 X L w) (i gr : Int) :
    Calls Try.prog 22 #[.pointer v, .int .i64 i, .int .i64 gr] w fun e w' => e = .returned (.tuple #[.int .i64 0, .int .i64 1]) ∧ St w0 X L w' := by
  have HN := Lib.hid hN
  clear hN
  go_enter Try.func22, Try.ntmps22
  go_wp2_with (first | (go_at_call 36; refine Calls.mono (group_st hs gr) ?_; clear hs; rintro e w ⟨rfl, hs⟩) | (go_at_call 34; refine Calls.mono (at_no HN.out hs i _) ?_; clear hs; rintro e w ⟨rfl, hs⟩))
  go_ret2
  exact ⟨rfl, hs⟩
set_option maxRecDepth 100000 in
theorem turn_no (hN : NoneV L v) (hs : St w0 X L w) (i : Int) (b : Bool) :
    Calls Try.prog 37 #[.pointer v, .int .i64 i, .bool b] w fun e w' => e = .returned (.tuple #[.int .i64 0, .int .i64 1]) ∧ St w0 X L w' := by
  have HN := Lib.hid hN
  clear hN
  go_enter Try.func37, Try.ntmps37
  go_wp2_with (first | (go_at_call 34; refine Calls.mono (at_no HN.out hs i _) ?_; clear hs; rintro e w ⟨rfl, hs⟩))
  go_ret2
  exact ⟨rfl, hs⟩
set_option maxRecDepth 100000 in
theorem connect_no (hN : NoneV L v) (hs : St w0 X L w) (i : Int) :
    Calls Try.prog 19 #[.pointer v, .int .i64 i] w fun e w' => e = .returned (.int .i64 1) ∧ St w0 X L w' := by
  have HN := Lib.hid hN
  clear hN
  go_enter Try.func19, Try.ntmps19
  go_wp2_with (first | (go_at_call 37; refine Calls.mono (turn_no HN.out hs i true) ?_; clear hs; rintro e w ⟨rfl, hs⟩))
  go_ret
  exact ⟨rfl, hs⟩
set_option maxRecDepth 100000 in
theorem disconnect_no (hN : NoneV L v) (hs : St w0 X L w) (i : Int) :
    Calls Try.prog 20 #[.pointer v, .int .i64 i] w fun e w' => e = .returned (.tuple #[.int .i64 0, .int .i64 1]) ∧ St w0 X L w' := by
  have HN := Lib.hid hN
  clear hN
  go_enter Try.func20, Try.ntmps20
  go_wp2_with (first | (go_at_call 37; refine Calls.mono (turn_no HN.out hs i false) ?_; clear hs; rintro e w ⟨rfl, hs⟩))
  go_ret2
  exact ⟨rfl, hs⟩
set_option maxRecDepth 100000 in
theorem submit_no (hN : NoneV L v) (hs : St w0 X L w) (i n : Int) :
    Calls Try.prog 14 #[.pointer v, .int .i64 i, .int .i64 n] w fun e w' => e = .returned (.int .i64 1) ∧ St w0 X L w' := by
  have HN := Lib.hid hN
  clear hN
  go_enter Try.func14, Try.ntmps14
  go_wp2_with (first | (go_at_call 35; refine Calls.mono (bytes_st hs n) ?_; clear hs; rintro e w ⟨rfl, hs⟩) | (go_at_call 34; refine Calls.mono (at_no HN.out hs i _) ?_; clear hs; rintro e w ⟨rfl, hs⟩))
  go_ret
  exact ⟨rfl, hs⟩
set_option maxRecDepth 100000 in
theorem done_no (hN : NoneV L v) (hs : St w0 X L w) (i n : Int) :
    Calls Try.prog 18 #[.pointer v, .int .i64 i, .int .i64 n] w fun e w' => e = .returned (.int .i64 1) ∧ St w0 X L w' := by
  have HN := Lib.hid hN
  clear hN
  go_enter Try.func18, Try.ntmps18
  go_wp2_with (first | (go_at_call 35; refine Calls.mono (bytes_st hs n) ?_; clear hs; rintro e w ⟨rfl, hs⟩) | (go_at_call 34; refine Calls.mono (at_no HN.out hs i _) ?_; clear hs; rintro e w ⟨rfl, hs⟩))
  go_ret
  exact ⟨rfl, hs⟩
set_option maxRecDepth 100000 in
set_option maxHeartbeats 1000000 in
theorem pick_no (hN : NoneV L v) (hs : St w0 X L w) (gr : Int) :
    Calls Try.prog 21 #[.pointer v, .int .i64 gr] w fun e w' => e = .returned (.tuple #[.int .i64 0, .int .i64 1]) ∧ St w0 X L w' := by
  have HN := Lib.hid hN
  clear hN
  go_enter Try.func21, Try.ntmps21
  go_upto_region 1 with (first | ((first | with_reducible refine Se.ab hs ?_ | with_reducible refine Se.abc hs ?_); clear hs; (first | ((fail_if_success (have _q := g2)); generalize w.heap.size = g2; intro w hs) | (generalize w.heap.size = g3; intro w hs))))
  refine Ch.region' 9 (fun wx => Li.Blk wx g2 [.pointer v] 29 ∧ Li.Blk wx g3 [.int .i64 gr] 3) (fun | 2 => true | 3 => true | _ => false) (by kernel_rfl) (by decide +kernel) (⟨hs.hold (.blk g2 29 [.pointer v]) (by simp), hs.hold (.blk g3 3 [.int .i64 gr]) (by simp)⟩) ?_
  replace hs := hs.drew
  generalize w.drew = w at hs ⊢
  change Ch.CW _ _ _ _ _ [0, 1, 2, 3, 4, 5, 6, 7, 8] _ _
  iterate 2 ((first | (refine Ch.pure (v := ?_) (by rfl) (by rfl) (by rfl) (fun wx hS => ?_) ?_; rotate_left; (focus (go_simp; (first | done | with_reducible rfl)))) | refine Ch.pure (v := _) (by rfl) (by rfl) (by rfl) (fun wx hS => Se.xl rfl rfl (by rw [(hS.1).cell]; rfl) (by decide +kernel)) ?_ | refine Ch.pure (v := _) (by rfl) (by rfl) (by rfl) (fun wx hS => Se.xl rfl rfl (by rw [(hS.2).cell]; rfl) (by decide +kernel)) ?_); (try simp only [Act.put, List.setIfInBounds_toArray, List.set_cons_zero, List.set_cons_succ]))
  refine Ch.noise (by rfl) (by rfl) (by rfl) ?_
  refine Se.gcall (f := 36) (args := #[.int .i64 gr]) ?_ ?_
  · go_simp
  refine Calls.mono (group_st hs gr) ?_
  clear hs
  rintro e w ⟨rfl, hs⟩
  refine ⟨_, rfl, ⟨hs.hold (.blk g2 29 [.pointer v]) (by simp), hs.hold (.blk g3 3 [.int .i64 gr]) (by simp)⟩, ?_⟩
  (try simp only [Act.put, List.setIfInBounds_toArray, List.set_cons_zero, List.set_cons_succ])
  refine Ch.noise (by rfl) (by rfl) (by rfl) ?_
  refine Se.gcall (f := 34) (args := #[.pointer v, .int .i64 0, .bool (grp gr)]) ?_ ?_
  · go_simp
  refine Calls.mono (at_no (HN.out.mono (by intro _ h; simp only [List.mem_cons, h, or_true])) hs 0 _) ?_
  clear hs
  rintro e w ⟨rfl, hs⟩
  refine ⟨_, rfl, ⟨hs.hold (.blk g2 29 [.pointer v]) (by simp), hs.hold (.blk g3 3 [.int .i64 gr]) (by simp)⟩, ?_⟩
  (try simp only [Act.put, List.setIfInBounds_toArray, List.set_cons_zero, List.set_cons_succ])
  iterate 5 (refine Ch.pure (v := ?_) (by rfl) (by rfl) (by rfl) (fun wx hS => ?_) ?_; rotate_left; (focus (go_simp; (first | done | with_reducible rfl))); (try simp only [Act.put, List.setIfInBounds_toArray, List.set_cons_zero, List.set_cons_succ]))
  refine Ch.done ?_
  simp only [List.drop_succ_cons, List.drop_zero]
  go_wp2_with fail
  go_ret2
  exact ⟨rfl, hs.drop.drop⟩
set_option maxRecDepth 100000 in
theorem learn_no (hN : NoneV L v) (hs : St w0 X L w) (i gr : Int) (s : Sta) :
    Calls Try.prog 30 #[.pointer v, .int .i64 i, .int .i64 gr, stv s] w fun e w' => e = .returned (.int .i64 1) ∧ St w0 X L w' := by
  have HN := Lib.hid hN
  clear hN
  go_enter Try.func30, Try.ntmps30
  go_wp2_with (first | ((first | with_reducible refine Se.ab hs ?_ | with_reducible refine Se.abc hs ?_); clear hs; (first | (generalize w.heap.size = g7; intro w hs))) | (go_at_call 36; refine Calls.mono (group_st hs gr) ?_; clear hs; rintro e w ⟨rfl, hs⟩) | (go_at_call 34; refine Calls.mono (at_no (HN.out.mono (by intro _ h; simp only [List.mem_cons, h, or_true])) hs i _) ?_; clear hs; rintro e w ⟨rfl, hs⟩))
  go_ret
  exact ⟨rfl, hs.drop⟩
set_option maxRecDepth 100000 in
set_option maxHeartbeats 1000000 in
theorem route_no (hN : NoneV L v) (hs : St w0 X L w) (i gr : Int) (s : Sta) (tr : Int) :
    Calls Try.prog 24 #[.pointer v, .int .i64 i, .int .i64 gr, stv s, .int .i64 tr] w fun e w' => e = .returned (.tuple #[.int .i64 0, .int .i64 0, .int .i64 1]) ∧ St w0 X L w' := by
  have HN := Lib.hid hN
  clear hN
  obtain ⟨b, hb⟩ : ∃ b, decide (0 ≤ tr) = b := ⟨_, rfl⟩
  have key : 0 ≤ tr ∨ decide (0 ≤ tr) = false := by simp only [decide_eq_false_iff_not]; omega
  clear hb b
  rcases key with h1 | h1
  all_goals
    go_enter Try.func24, Try.ntmps24
    go_wp2_with (first | ((with_reducible refine Se.isL (o := ⟨some 24, _, _, _, _, _⟩) ?_); (refine Se.toL rfl (Se.bsv (o := ⟨some 24, _, _, _, _, _⟩) hs rfl Try.underlying112 bool_info rfl ([.bool (grp gr), .bool true]) (by rfl) (by rfl) (by decide) (by decide) (by simp [Value.oneCell']) ?_); clear hs; rintro w g24 - hs)) | ((with_reducible refine Se.isL (o := ⟨some 24, _, _, _, _, _⟩) ?_); (refine Se.toL rfl (Se.bsv (o := ⟨some 24, _, _, _, _, _⟩) hs rfl Try.underlying112 bool_info rfl ([.bool (grp gr), .bool false]) (by rfl) (by rfl) (by decide) (by decide) (by simp [Value.oneCell']) ?_); clear hs; rintro w g24 - hs)) | ((first | with_reducible refine Se.ab hs ?_ | with_reducible refine Se.abc hs ?_); clear hs; (first | (generalize w.heap.size = g8; intro w hs))) | (go_at_call 36; refine Calls.mono (group_st hs gr) ?_; clear hs; rintro e w ⟨rfl, hs⟩) | (go_at_call 32; refine Calls.mono (all_st hs [_, _] (Reads.blk 0 rfl) rfl (by decide)) ?_; clear hs; rintro e w ⟨rfl, hs⟩) | (go_at_call 34; refine Calls.mono (at_no (HN.out.mono (by intro _ h; simp only [List.mem_cons, h, or_true])) hs i _) ?_; clear hs; rintro e w ⟨rfl, hs⟩))
    go_ret3
    exact ⟨rfl, hs.drop.drop⟩
set_option maxRecDepth 100000 in
theorem copy_no (hN : NoneV L v) (hs : St w0 X L w) :
    Calls Try.prog 28 #[.pointer v] w fun e w' => e = .returned (.pointer none) ∧ St w0 X L w' := by
  have HN := Lib.hid hN
  clear hN
  go_enter Try.func28, Try.ntmps28
  go_wp2_with (first | (go_at_call 53; refine Calls.mono (HN.out.st hs) ?_; clear hs; rintro e w ⟨rfl, hs⟩))
  go_ret
  exact ⟨rfl, hs⟩
set_option maxRecDepth 100000 in
theorem len_no (hN : NoneV L v) (hs : St w0 X L w) :
    Calls Try.prog 29 #[.pointer v] w fun e w' => e = .returned (.int .i64 0) ∧ St w0 X L w' := by
  have HN := Lib.hid hN
  clear hN
  go_enter Try.func29, Try.ntmps29
  go_wp2_with (first | (go_at_call 53; refine Calls.mono (HN.out.st hs) ?_; clear hs; rintro e w ⟨rfl, hs⟩))
  go_ret
  exact ⟨rfl, hs⟩
set_option maxRecDepth 100000 in
theorem each_no (hN : NoneV L v) (hs : St w0 X L w) :
    Calls Try.prog 23 #[.pointer v] w fun e w' => ∃ b, e = .returned (.func (.func 44) #[] #[.pointer (some ⟨b, 0, none⟩)]) ∧ St w0 X (.blk b 29 [.pointer none] :: L) w' := by
  have HN := Lib.hid hN
  clear hN
  go_enter Try.func23, Try.ntmps23
  go_wp2_with (first | ((with_reducible refine Se.isL (o := ⟨some 3, _, _, _, _, _⟩) ?_); (refine Se.toL rfl (Se.al (o := ⟨some 3, _, _, _, _, _⟩) hs rfl ((show _ = some [Value.pointer none] from rfl)) ?_); clear hs; rintro w g3 - hs)) | ((with_reducible refine Se.isL (o := ⟨none, _, _, _, _, _⟩) ?_); ((first | refine Se.toL rfl (Se.so 0 (v := .int _ _) hs rfl rfl rfl rfl rfl (by kernel_rfl) (by simp) ?_) | refine Se.toL rfl (Se.so 0 (v := .bool _) hs rfl rfl rfl rfl rfl (by kernel_rfl) (by simp) ?_) | refine Se.toL rfl (Se.so 0 (v := .slice _ _ _) hs rfl rfl rfl rfl rfl (by kernel_rfl) (by simp) ?_) | refine Se.toL rfl (Se.so 0 (v := .pointer _) hs rfl rfl rfl rfl rfl (by kernel_rfl) (by simp) ?_) | refine Se.toL rfl (Se.so 0 (v := .string _) hs rfl rfl rfl rfl rfl (by kernel_rfl) (by simp) ?_) | refine Se.toL rfl (Se.so 0 (v := .map _) hs rfl rfl rfl rfl rfl (by kernel_rfl) (by simp) ?_) | refine Se.toL rfl (Se.so 0 (v := .func _ _ _) hs rfl rfl rfl rfl rfl (by kernel_rfl) (by simp) ?_) | refine Se.toL rfl (Se.so 0 (v := .nilFunc) hs rfl rfl rfl rfl rfl (by kernel_rfl) (by simp) ?_)); clear hs; intro w hs; try simp only [List.set_cons_zero] at hs)) | (go_at_call 28; refine Calls.mono (copy_no HN.out hs) ?_; clear hs; rintro e w ⟨rfl, hs⟩))
  go_ret
  exact ⟨g3, rfl, hs⟩
set_option maxRecDepth 100000 in
theorem each1_no (b : Nat) : Se.SeqSt (α := Nat) Try.prog 44 #[.pointer (some ⟨b, 0, none⟩)] (enc2 fun _ => dead) [] (fun _ => [.blk b 29 [.pointer none]]) [.blk b 29 [.pointer none]] := by
  intro l w0 X J Jx hY T w h0 hs
  have H0 := Lib.hid h0
  clear hY h0
  simp only [List.cons_append, List.nil_append] at hs
  rw [show (#[Value.func (.yield l) #[] #[]] ++ #[Value.pointer (some ⟨b, 0, none⟩)] : Array Value) = #[.func (.yield l) #[] #[], .pointer (some ⟨b, 0, none⟩)] from rfl]
  go_enter Try.func44, Try.ntmps44
  refine wp_scope_straight ?_
  go_wp2_with (first | ((with_reducible refine Se.isL (o := ⟨some 5, _, _, _, _, _⟩) ?_); (refine Se.toL rfl (Se.ld (o := ⟨some 5, _, _, _, _, _⟩) hs rfl rfl (Cell.blk 0 rfl rfl) (by kernel_rfl) ?_))))
  exact ⟨rfl, _, results_none rfl _ _ _, ⟨_, rfl⟩, .inl ⟨T, H0.out, hs⟩⟩
end
end Pa
end Go.Proofs.Ytplhelhijjmlaaa

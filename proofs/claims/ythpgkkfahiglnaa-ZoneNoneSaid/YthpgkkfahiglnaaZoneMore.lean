/- Layer 28: what the laws of configurations and of nil and zero zones need. No condition but Go's own limits. Put together by wip/zonemore.py. -/
import Derived.Test.YthpgkkfahiglnaaZoneLaw5
import Derived.Test.YthpgkkfahiglnaaZoneLaw4
set_option linter.unusedVariables false
set_option linter.unusedSimpArgs false
namespace Go.Proofs.Ythpgkkfahiglnaa
open Go Go.RowKit
namespace Zo
open Se (St At Reads Cell)
open Li (Rd Blk Fr)
variable {w0 w : World} {X : List Nat} {L : List At} {P : Option Addr}
attribute [local irreducible] Calls
attribute [local go_sem] eql_nil eql_nil2
def zz : List Value := [iv 0, iv 0, iv 0, iv 0]
set_option maxRecDepth 100000 in
set_option maxRecDepth 100000 in
set_option maxHeartbeats 4000000 in
theorem zone_no {g cc : Nat} {z : Zs} {a : Addr} (hs : St w0 X (pZ g z (some a) cc :: L) w) (ho : OkZ z) {i : Int} (hi : i < 0 ∨ z.l.length ≤ i) :
  Calls Try.prog 15 #[.pointer (some ⟨g, 0, none⟩), .int .i64 i] w fun e' w' => e' = .returned (.tuple #[.agg zz.toArray, .int .i64 3]) ∧ St w0 X (pZ g z (some a) cc :: L) w' := by
 have CK : Hid (∀ (g4 : Nat) (w : World), St w0 X (.blk g4 37 [iv 0, iv 0, iv 0, iv 0] :: pZ g z (some a) cc :: L) w → Calls Try.prog 43 #[.pointer (some ⟨g, 0, none⟩), .int .i64 i] w fun e w' => e = .returned (.int .i64 3) ∧ St w0 X (.blk g4 37 [iv 0, iv 0, iv 0, iv 0] :: pZ g z (some a) cc :: L) w') := Lib.hid (fun g4 w hs => (known_st (e := 3) (hs.perm (List.Perm.swap _ _ _)) ho i (by rw [if_pos hi])).mono (by
  rintro e w ⟨h1, h2⟩
  exact ⟨h1, h2.perm (List.Perm.swap _ _ _)⟩))
 have BP : Hid (∀ w : World, (Instr.build 37 #[]).run Try.prog w = .ok (.agg zz.toArray) w) := Lib.hid (fun w => by kernel_rfl)
 have ZO := Lib.hid (show ∀ v ∈ zz, v.oneCell' = true by simp [zz, Value.oneCell'])
 have ZZ := Lib.hid (show zz.length = 4 from rfl)
 clear ho hi
 go_enter Try.func15, Try.ntmps15
 go_wp2_with (first | ((with_reducible refine Se.isL (o := ⟨some 4, _, _, _, _, _⟩) ?_); (refine Se.toL rfl (Se.al (o := ⟨some 4, _, _, _, _, _⟩) hs rfl (zZo) ?_); clear hs; rintro w g4 - hs)) | ((with_reducible refine Se.isL (o := ⟨some 14, _, _, _, _, _⟩) ?_); (refine Se.toL rfl (Se.bd (o := ⟨some 14, _, _, _, _, _⟩) rfl rfl (BP.out _) ?_))) | ((with_reducible refine Se.isL (o := ⟨none, _, _, _, _, _⟩) ?_); (refine Se.toL rfl (Se.sow 0 hs rfl rfl rfl rfl (ZO.out) ((by rw [ZZ.out]; kernel_rfl)) (rfl) ?_); clear hs; intro w hs; try simp only [List.cons_append, List.nil_append, List.set_cons_zero] at hs)) | (go_at_call 43; refine Calls.mono (CK.out _ _ hs) ?_; clear hs; rintro e w ⟨rfl, hs⟩))
 refine Se.ret hs [.agg zz.toArray, .int .i64 3] rfl ⟨Se.resRow rfl (Reads.blk 0 rfl) (by kernel_rfl) (by rw [ZZ.out] <;> kernel_rfl), rfl, trivial⟩ (by simp) rfl ?_
 exact ⟨rfl, hs.drop⟩
set_option maxRecDepth 100000 in
set_option maxHeartbeats 4000000 in
theorem copy_nil (hs : St w0 X L w) (hz : NZ L P) : Calls Try.prog 24 #[.pointer P] w fun e w' => e = .returned (.pointer none) ∧ St w0 X L w' := by
 have CN := Lib.hid (fun w hs => none_nil (w := w) (L := L) (w0 := w0) (X := X) hs hz)
 clear hz
 go_enter Try.func24, Try.ntmps24
 go_wp2_with (first | (go_at_call 42; refine Calls.mono (CN.out _ hs) ?_; clear hs; rintro e w ⟨rfl, hs⟩))
 go_ret
 exact ⟨rfl, hs⟩
set_option maxRecDepth 100000 in
set_option maxHeartbeats 4000000 in
theorem read_nil (hs : St w0 X L w) (hz : NZ L P) (lba n : Int) : Calls Try.prog 14 #[.pointer P, .int .i64 lba, .int .i64 n] w fun e w' => e = .returned (.agg (stl 6).toArray) ∧ St w0 X L w' := by
 have CN : Hid (∀ (M : List At) (w : World), St w0 X (M ++ L) w → Calls Try.prog 42 #[.pointer P] w fun e w' => e = .returned (.bool true) ∧ St w0 X (M ++ L) w') := Lib.hid (fun M w hs => none_nil hs (hz.app M))
 have MF : Hid (∀ (L : List At) (w : World), St w0 X L w → Calls Try.prog 36 #[.bool false, .int .u8 6] w fun e w' => e = .panicked (chS 6) ∧ St w0 X L w') := Lib.hid (fun L w hs => must_f hs 6 (by decide))
 have ZS : Hid ((Try.prog.info? 32).bind (fun i => i.zero.map (·.cells.toList)) = some st0) := Lib.hid zSt
 have KL := Lib.hid (stl_len 6)
 clear hz
 go_enter_defers Try.func14, Try.ntmps14
 go_wp2_with (first | ((with_reducible refine Se.isL (o := ⟨some 6, _, _, _, _, _⟩) ?_); (refine Se.toL rfl (Se.al (o := ⟨some 6, _, _, _, _, _⟩) hs rfl (ZS.out) ?_); clear hs; rintro w g6 - hs)) | (go_at_call 42; refine Calls.mono (CN.out [_] _ hs) ?_; clear hs; rintro e w ⟨rfl, hs⟩) | (go_at_call 36; refine Calls.mono (MF.out _ _ hs) ?_; clear hs; rintro e w ⟨rfl, hs⟩))
 refine leaves_cons (f := 41) (args := #[.pointer (some ⟨g6, 0, none⟩)]) (by simp) (by simp [go_sem]) ?_
 refine (caught_panic 6 g6 rfl hs).mono ?_
 rintro e' u' w'' ⟨rfl, rfl, hs⟩
 refine ⟨_, run_results_row hs Try.results14 rfl (Reads.blk 0 rfl) (by kernel_rfl) (by rw [KL.out] <;> kernel_rfl), ?_⟩
 exact ⟨rfl, hs.drop⟩
set_option maxRecDepth 100000 in
set_option maxHeartbeats 4000000 in
theorem write_nil (hs : St w0 X L w) (hz : NZ L P) (x y : Int) : Calls Try.prog 12 #[.pointer P, .int .i64 x, .int .i64 y] w fun e w' => e = .returned (.agg (stl 6).toArray) ∧ St w0 X L w' := by
 have CT : Hid (∀ (M : List At) (w : World) (f : Value), St w0 X (M ++ L) w → Calls Try.prog 34 #[.pointer P, f] w fun e w' => e = .returned (.agg (stl 6).toArray) ∧ St w0 X (M ++ L) w') := Lib.hid (fun M w f hs => try_nil hs (hz.app M) f)
 obtain ⟨S, hS⟩ : ∃ S, S = stl 6 := ⟨_, rfl⟩
 have SL := Lib.hid (show S.length = 4 by rw [hS]; exact stl_len _)
 have SO := Lib.hid (show ∀ v ∈ S, v.oneCell' = true by rw [hS]; exact stl_one _)
 have ZL := Lib.hid (show st0.length = 4 from rfl)
 have ZS : Hid ((Try.prog.info? 32).bind (fun i => i.zero.map (·.cells.toList)) = some st0) := Lib.hid zSt
 rw [← hS] at CT ⊢
 clear hz hS
 go_enter Try.func12, Try.ntmps12
 go_wp2_with (first | ((with_reducible refine Se.isL (o := ⟨some 6, _, _, _, _, _⟩) ?_); (refine Se.toL rfl (Se.al (o := ⟨some 6, _, _, _, _, _⟩) hs rfl (ZS.out) ?_); clear hs; rintro w g6 - hs)) | ((with_reducible refine Se.isL (o := ⟨none, _, _, _, _, _⟩) ?_); (refine Se.toL rfl (Se.sow 0 hs rfl rfl rfl rfl (SO.out) ((by rw [SL.out]; kernel_rfl)) ((by rw [SL.out, ZL.out])) ?_); clear hs; intro w hs; try simp only [List.cons_append, List.nil_append, List.set_cons_zero] at hs)) | ((first | with_reducible refine Se.ab hs ?_ | with_reducible refine Se.abc hs ?_); clear hs; (first | ((fail_if_success (have _q := g5)); generalize w.heap.size = g5; intro w hs) | (generalize w.heap.size = g4; intro w hs))) | (go_at_call 34; refine Calls.mono (CT.out [_, _, _] _ _ hs) ?_; clear hs; rintro e w ⟨rfl, hs⟩))
 refine bodyPost_ret (v := .agg S.toArray) ?_ rfl ?_
 ·exact run_results_row hs rfl rfl (Reads.blk 0 rfl) (by kernel_rfl) (by rw [SL.out] <;> kernel_rfl)
 ·exact ⟨rfl, hs.drop.drop.drop⟩
set_option maxRecDepth 100000 in
set_option maxHeartbeats 4000000 in
theorem manage_nil (hs : St w0 X L w) (hz : NZ L P) (x y : Int) : Calls Try.prog 18 #[.pointer P, .int .i64 x, .int .i64 y] w fun e w' => e = .returned (.agg (stl 6).toArray) ∧ St w0 X L w' := by
 have CT : Hid (∀ (M : List At) (w : World) (f : Value), St w0 X (M ++ L) w → Calls Try.prog 34 #[.pointer P, f] w fun e w' => e = .returned (.agg (stl 6).toArray) ∧ St w0 X (M ++ L) w') := Lib.hid (fun M w f hs => try_nil hs (hz.app M) f)
 obtain ⟨S, hS⟩ : ∃ S, S = stl 6 := ⟨_, rfl⟩
 have SL := Lib.hid (show S.length = 4 by rw [hS]; exact stl_len _)
 have SO := Lib.hid (show ∀ v ∈ S, v.oneCell' = true by rw [hS]; exact stl_one _)
 have ZL := Lib.hid (show st0.length = 4 from rfl)
 have ZS : Hid ((Try.prog.info? 32).bind (fun i => i.zero.map (·.cells.toList)) = some st0) := Lib.hid zSt
 rw [← hS] at CT ⊢
 clear hz hS
 go_enter Try.func18, Try.ntmps18
 go_wp2_with (first | ((with_reducible refine Se.isL (o := ⟨some 6, _, _, _, _, _⟩) ?_); (refine Se.toL rfl (Se.al (o := ⟨some 6, _, _, _, _, _⟩) hs rfl (ZS.out) ?_); clear hs; rintro w g6 - hs)) | ((with_reducible refine Se.isL (o := ⟨none, _, _, _, _, _⟩) ?_); (refine Se.toL rfl (Se.sow 0 hs rfl rfl rfl rfl (SO.out) ((by rw [SL.out]; kernel_rfl)) ((by rw [SL.out, ZL.out])) ?_); clear hs; intro w hs; try simp only [List.cons_append, List.nil_append, List.set_cons_zero] at hs)) | ((first | with_reducible refine Se.ab hs ?_ | with_reducible refine Se.abc hs ?_); clear hs; (first | ((fail_if_success (have _q := g5)); generalize w.heap.size = g5; intro w hs) | (generalize w.heap.size = g4; intro w hs))) | (go_at_call 34; refine Calls.mono (CT.out [_, _, _] _ _ hs) ?_; clear hs; rintro e w ⟨rfl, hs⟩))
 refine bodyPost_ret (v := .agg S.toArray) ?_ rfl ?_
 ·exact run_results_row hs rfl rfl (Reads.blk 0 rfl) (by kernel_rfl) (by rw [SL.out] <;> kernel_rfl)
 ·exact ⟨rfl, hs.drop.drop.drop⟩
set_option maxRecDepth 100000 in
set_option maxHeartbeats 4000000 in
theorem manageall_nil (hs : St w0 X L w) (hz : NZ L P) (x : Int) : Calls Try.prog 28 #[.pointer P, .int .i64 x] w fun e w' => e = .returned (.agg (stl 6).toArray) ∧ St w0 X L w' := by
 have CT : Hid (∀ (M : List At) (w : World) (f : Value), St w0 X (M ++ L) w → Calls Try.prog 34 #[.pointer P, f] w fun e w' => e = .returned (.agg (stl 6).toArray) ∧ St w0 X (M ++ L) w') := Lib.hid (fun M w f hs => try_nil hs (hz.app M) f)
 obtain ⟨S, hS⟩ : ∃ S, S = stl 6 := ⟨_, rfl⟩
 have SL := Lib.hid (show S.length = 4 by rw [hS]; exact stl_len _)
 have SO := Lib.hid (show ∀ v ∈ S, v.oneCell' = true by rw [hS]; exact stl_one _)
 have ZL := Lib.hid (show st0.length = 4 from rfl)
 have ZS : Hid ((Try.prog.info? 32).bind (fun i => i.zero.map (·.cells.toList)) = some st0) := Lib.hid zSt
 rw [← hS] at CT ⊢
 clear hz hS
 go_enter Try.func28, Try.ntmps28
 go_wp2_with (first | ((with_reducible refine Se.isL (o := ⟨some 4, _, _, _, _, _⟩) ?_); (refine Se.toL rfl (Se.al (o := ⟨some 4, _, _, _, _, _⟩) hs rfl (ZS.out) ?_); clear hs; rintro w g4 - hs)) | ((with_reducible refine Se.isL (o := ⟨none, _, _, _, _, _⟩) ?_); (refine Se.toL rfl (Se.sow 0 hs rfl rfl rfl rfl (SO.out) ((by rw [SL.out]; kernel_rfl)) ((by rw [SL.out, ZL.out])) ?_); clear hs; intro w hs; try simp only [List.cons_append, List.nil_append, List.set_cons_zero] at hs)) | ((first | with_reducible refine Se.ab hs ?_ | with_reducible refine Se.abc hs ?_); clear hs; (first | (generalize w.heap.size = g3; intro w hs))) | (go_at_call 34; refine Calls.mono (CT.out [_, _] _ _ hs) ?_; clear hs; rintro e w ⟨rfl, hs⟩))
 refine bodyPost_ret (v := .agg S.toArray) ?_ rfl ?_
 ·exact run_results_row hs rfl rfl (Reads.blk 0 rfl) (by kernel_rfl) (by rw [SL.out] <;> kernel_rfl)
 ·exact ⟨rfl, hs.drop.drop⟩
set_option maxRecDepth 100000 in
set_option maxHeartbeats 4000000 in
theorem known_nil (hs : St w0 X L w) (hz : NZ L P) (i : Int) : Calls Try.prog 43 #[.pointer P, .int .i64 i] w fun e w' => e = .returned (.int .i64 1) ∧ St w0 X L w' := by
 have CN := Lib.hid (fun w hs => none_nil (w := w) (L := L) (w0 := w0) (X := X) hs hz)
 clear hz
 go_enter Try.func43, Try.ntmps43
 go_wp2_with (first | (go_at_call 42; refine Calls.mono (CN.out _ hs) ?_; clear hs; rintro e w ⟨rfl, hs⟩))
 go_ret
 exact ⟨rfl, hs⟩
set_option maxRecDepth 100000 in
set_option maxHeartbeats 4000000 in
theorem damage_nil (hs : St w0 X L w) (hz : NZ L P) (i : Int) (b : Bool) : Calls Try.prog 17 #[.pointer P, .int .i64 i, .bool b] w fun e w' => e = .returned (.int .i64 1) ∧ St w0 X L w' := by
 have CN := Lib.hid (fun w hs => known_nil (w := w) (L := L) (w0 := w0) (X := X) hs hz i)
 clear hz
 go_enter Try.func17, Try.ntmps17
 go_wp2_with (first | (go_at_call 43; refine Calls.mono (CN.out _ hs) ?_; clear hs; rintro e w ⟨rfl, hs⟩))
 go_ret
 exact ⟨rfl, hs⟩
set_option maxRecDepth 100000 in
set_option maxHeartbeats 4000000 in
theorem power_nil (hs : St w0 X L w) (hz : NZ L P) : Calls Try.prog 29 #[.pointer P] w fun e w' => e = .returned (.int .i64 1) ∧ St w0 X L w' := by
 have CN := Lib.hid (fun w hs => none_nil (w := w) (L := L) (w0 := w0) (X := X) hs hz)
 clear hz
 go_enter Try.func29, Try.ntmps29
 go_wp2_with (first | (go_at_call 42; refine Calls.mono (CN.out _ hs) ?_; clear hs; rintro e w ⟨rfl, hs⟩))
 go_ret
 exact ⟨rfl, hs⟩
set_option maxRecDepth 100000 in
set_option maxHeartbeats 4000000 in
theorem count_nil (hs : St w0 X L w) (hz : NZ L P) (f : Value) : Calls Try.prog 65 #[.pointer P, f] w fun e w' => e = .returned (.int .i64 0) ∧ St w0 X L w' := by
 have CN := Lib.hid (fun w hs => none_nil (w := w) (L := L) (w0 := w0) (X := X) hs hz)
 clear hz
 go_enter Try.func65, Try.ntmps65
 go_wp2_with (first | (go_at_call 42; refine Calls.mono (CN.out _ hs) ?_; clear hs; rintro e w ⟨rfl, hs⟩))
 go_ret
 exact ⟨rfl, hs⟩
set_option maxRecDepth 100000 in
set_option maxHeartbeats 4000000 in
theorem open_nil (hs : St w0 X L w) (hz : NZ L P) : Calls Try.prog 30 #[.pointer P] w fun e w' => e = .returned (.int .i64 0) ∧ St w0 X L w' := by
 have CN := Lib.hid (fun w f hs => count_nil (w := w) (L := L) (w0 := w0) (X := X) hs hz f)
 clear hz
 go_enter Try.func30, Try.ntmps30
 go_wp2_with (first | (go_at_call 65; refine Calls.mono (CN.out _ _ hs) ?_; clear hs; rintro e w ⟨rfl, hs⟩))
 go_ret
 exact ⟨rfl, hs⟩
set_option maxRecDepth 100000 in
set_option maxHeartbeats 4000000 in
theorem active_nil (hs : St w0 X L w) (hz : NZ L P) : Calls Try.prog 31 #[.pointer P] w fun e w' => e = .returned (.int .i64 0) ∧ St w0 X L w' := by
 have CN := Lib.hid (fun w f hs => count_nil (w := w) (L := L) (w0 := w0) (X := X) hs hz f)
 clear hz
 go_enter Try.func31, Try.ntmps31
 go_wp2_with (first | (go_at_call 65; refine Calls.mono (CN.out _ _ hs) ?_; clear hs; rintro e w ⟨rfl, hs⟩))
 go_ret
 exact ⟨rfl, hs⟩
set_option maxRecDepth 100000 in
set_option maxHeartbeats 4000000 in
theorem config_nil (hs : St w0 X L w) (hz : NZ L P) : Calls Try.prog 27 #[.pointer P] w fun e w' => e = .returned (.agg z5.toArray) ∧ St w0 X L w' := by
 have CN : Hid (∀ (M : List At) (w : World), St w0 X (M ++ L) w → Calls Try.prog 42 #[.pointer P] w fun e w' => e = .returned (.bool true) ∧ St w0 X (M ++ L) w') := Lib.hid (fun M w hs => none_nil hs (hz.app M))
 have BP : Hid (∀ w : World, (Instr.build 24 #[]).run Try.prog w = .ok (.agg z5.toArray) w) := Lib.hid (fun w => by kernel_rfl)
 have ZO := Lib.hid (show ∀ v ∈ z5, v.oneCell' = true by simp [z5, cl, Value.oneCell'])
 have ZL := Lib.hid (show z5.length = 5 from rfl)
 have zC : Hid ((Try.prog.info? 24).bind (fun i => i.zero.map (·.cells.toList)) = some z5) := Lib.hid zCf
 clear hz
 go_enter Try.func27, Try.ntmps27
 go_wp2_with (first | ((with_reducible refine Se.isL (o := ⟨some 2, _, _, _, _, _⟩) ?_); (refine Se.toL rfl (Se.al (o := ⟨some 2, _, _, _, _, _⟩) hs rfl (zC.out) ?_); clear hs; rintro w g2 - hs)) | ((with_reducible refine Se.isL (o := ⟨some 5, _, _, _, _, _⟩) ?_); (refine Se.toL rfl (Se.bd (o := ⟨some 5, _, _, _, _, _⟩) rfl rfl (BP.out _) ?_))) | ((with_reducible refine Se.isL (o := ⟨none, _, _, _, _, _⟩) ?_); (refine Se.toL rfl (Se.sow 0 hs rfl rfl rfl rfl (ZO.out) ((by rw [ZL.out]; kernel_rfl)) (rfl) ?_); clear hs; intro w hs; try simp only [List.cons_append, List.nil_append, List.set_cons_zero] at hs)) | (go_at_call 42; refine Calls.mono (CN.out [_] _ hs) ?_; clear hs; rintro e w ⟨rfl, hs⟩))
 refine bodyPost_ret (v := .agg z5.toArray) ?_ rfl ?_
 ·exact run_results_row hs rfl rfl (Reads.blk 0 rfl) (by kernel_rfl) (by rw [ZL.out] <;> kernel_rfl)
 ·exact ⟨rfl, hs.drop⟩
set_option maxRecDepth 100000 in
set_option maxRecDepth 100000 in
set_option maxHeartbeats 4000000 in
theorem zone_nil (hs : St w0 X L w) (hz : NZ L P) (i : Int) : Calls Try.prog 15 #[.pointer P, .int .i64 i] w fun e' w' => e' = .returned (.tuple #[.agg zz.toArray, .int .i64 1]) ∧ St w0 X L w' := by
 have CK : Hid (∀ (M : List At) (w : World), St w0 X (M ++ L) w → Calls Try.prog 43 #[.pointer P, .int .i64 i] w fun e w' => e = .returned (.int .i64 1) ∧ St w0 X (M ++ L) w') := Lib.hid (fun M w hs => known_nil hs (hz.app M) i)
 have BP : Hid (∀ w : World, (Instr.build 37 #[]).run Try.prog w = .ok (.agg zz.toArray) w) := Lib.hid (fun w => by kernel_rfl)
 have ZO := Lib.hid (show ∀ v ∈ zz, v.oneCell' = true by simp [zz, Value.oneCell'])
 have ZZ := Lib.hid (show zz.length = 4 from rfl)
 clear hz
 go_enter Try.func15, Try.ntmps15
 go_wp2_with (first | ((with_reducible refine Se.isL (o := ⟨some 4, _, _, _, _, _⟩) ?_); (refine Se.toL rfl (Se.al (o := ⟨some 4, _, _, _, _, _⟩) hs rfl (zZo) ?_); clear hs; rintro w g4 - hs)) | ((with_reducible refine Se.isL (o := ⟨some 14, _, _, _, _, _⟩) ?_); (refine Se.toL rfl (Se.bd (o := ⟨some 14, _, _, _, _, _⟩) rfl rfl (BP.out _) ?_))) | ((with_reducible refine Se.isL (o := ⟨none, _, _, _, _, _⟩) ?_); (refine Se.toL rfl (Se.sow 0 hs rfl rfl rfl rfl (ZO.out) ((by rw [ZZ.out]; kernel_rfl)) (rfl) ?_); clear hs; intro w hs; try simp only [List.cons_append, List.nil_append, List.set_cons_zero] at hs)) | (go_at_call 43; refine Calls.mono (CK.out [_] _ hs) ?_; clear hs; rintro e w ⟨rfl, hs⟩))
 refine Se.ret hs [.agg zz.toArray, .int .i64 1] rfl ⟨Se.resRow rfl (Reads.blk 0 rfl) (by kernel_rfl) (by rw [ZZ.out] <;> kernel_rfl), rfl, trivial⟩ (by simp) rfl ?_
 exact ⟨rfl, hs.drop⟩
set_option maxRecDepth 100000 in
set_option maxRecDepth 100000 in
set_option maxHeartbeats 4000000 in
theorem each2_nil {g6 g5 : Nat} (z : Zs) : Se.SeqSt Try.prog 58 #[.pointer (some ⟨g6, 0, none⟩), .pointer (some ⟨g5, 0, none⟩)] (encZ z) [] (fun _ => [.blk g6 106 [.slice none 0 0]]) [.blk g6 106 [.slice none 0 0]] := by
 intro l w0 X J Jx hY T w h0 hs
 have H0 := Lib.hid h0
 simp only [List.cons_append, List.nil_append] at hs
 rw [show (#[Value.func (.yield l) #[] #[]] ++ #[Value.pointer (some ⟨g6, 0, none⟩), Value.pointer (some ⟨g5, 0, none⟩)] : Array Value) = #[.func (.yield l) #[] #[], .pointer (some ⟨g6, 0, none⟩), .pointer (some ⟨g5, 0, none⟩)] from rfl]
 clear hY h0
 go_enter Try.func58, Try.ntmps58
 refine wp_scope_straight ?_
 go_upto_region 0 with (fail)
 go_step3
 go_wp2_with (first | ((with_reducible refine Se.isL (o := ⟨some 8, _, _, _, _, _⟩) ?_); (refine Se.toL rfl (Se.ld (o := ⟨some 8, _, _, _, _, _⟩) hs rfl rfl (Cell.blk 0 rfl rfl) (by kernel_rfl) ?_))))
 go_loopg [10] 0 (fun gh s10 wr => gh = 0 ∧ s10 = .int .i64 0 ∧ St w0 X (.blk g6 106 [.slice none 0 0] :: T) wr)
 case atStart => exact ⟨rfl, rfl, hs⟩
 case round =>
  clear hs
  rename World => w
  obtain ⟨rfl, rfl, hs⟩ := hrel
  go_wp2_with fail
  exact ⟨rfl, _, results_none rfl _ _ _, ⟨_, rfl⟩, .inl ⟨T, H0.out, hs⟩⟩
set_option maxRecDepth 100000 in
set_option maxRecDepth 100000 in
set_option maxHeartbeats 4000000 in
theorem each_nil (hz : NZ L P) (A : Option Addr) (n c : Nat) (z : Zs) : EachOk w0 X L L (.pointer P) A n c z [] := by
 intro w hs
 have CC : Hid (∀ (M : List At) (w : World), St w0 X (M ++ L) w → Calls Try.prog 24 #[.pointer P] w fun e w' => e = .returned (.pointer none) ∧ St w0 X (M ++ L) w') := Lib.hid (fun M w hs => copy_nil hs (hz.app M))
 clear hz
 go_enter Try.func23, Try.ntmps23
 go_wp2_with (first | ((with_reducible refine Se.isL (o := ⟨some 5, _, _, _, _, _⟩) ?_); (refine Se.toL rfl (Se.al (o := ⟨some 5, _, _, _, _, _⟩) hs rfl (zPt) ?_); clear hs; rintro w g5 - hs)) | ((with_reducible refine Se.isL (o := ⟨some 6, _, _, _, _, _⟩) ?_); (refine Se.toL rfl (Se.al (o := ⟨some 6, _, _, _, _, _⟩) hs rfl (zIs) ?_); clear hs; rintro w g6 - hs)) | ((with_reducible refine Se.isL (o := ⟨none, Op.store 25 _ _, _, _, _, _⟩) ?_); ((first | refine Se.toL rfl (Se.so 1 (v := .int _ _) hs rfl rfl rfl rfl rfl (by kernel_rfl) (by simp) ?_) | refine Se.toL rfl (Se.so 1 (v := .bool _) hs rfl rfl rfl rfl rfl (by kernel_rfl) (by simp) ?_) | refine Se.toL rfl (Se.so 1 (v := .slice _ _ _) hs rfl rfl rfl rfl rfl (by kernel_rfl) (by simp) ?_) | refine Se.toL rfl (Se.so 1 (v := .pointer _) hs rfl rfl rfl rfl rfl (by kernel_rfl) (by simp) ?_) | refine Se.toL rfl (Se.so 1 (v := .string _) hs rfl rfl rfl rfl rfl (by kernel_rfl) (by simp) ?_) | refine Se.toL rfl (Se.so 1 (v := .map _) hs rfl rfl rfl rfl rfl (by kernel_rfl) (by simp) ?_) | refine Se.toL rfl (Se.so 1 (v := .func _ _ _) hs rfl rfl rfl rfl rfl (by kernel_rfl) (by simp) ?_) | refine Se.toL rfl (Se.so 1 (v := .nilFunc) hs rfl rfl rfl rfl rfl (by kernel_rfl) (by simp) ?_)); clear hs; intro w hs; try simp only [List.cons_append, List.nil_append, List.set_cons_zero, List.set_cons_succ] at hs)) | ((with_reducible refine Se.isL (o := ⟨none, Op.store 106 _ _, _, _, _, _⟩) ?_); ((first | refine Se.toL rfl (Se.so 0 (v := .int _ _) hs rfl rfl rfl rfl rfl (by kernel_rfl) (by simp) ?_) | refine Se.toL rfl (Se.so 0 (v := .bool _) hs rfl rfl rfl rfl rfl (by kernel_rfl) (by simp) ?_) | refine Se.toL rfl (Se.so 0 (v := .slice _ _ _) hs rfl rfl rfl rfl rfl (by kernel_rfl) (by simp) ?_) | refine Se.toL rfl (Se.so 0 (v := .pointer _) hs rfl rfl rfl rfl rfl (by kernel_rfl) (by simp) ?_) | refine Se.toL rfl (Se.so 0 (v := .string _) hs rfl rfl rfl rfl rfl (by kernel_rfl) (by simp) ?_) | refine Se.toL rfl (Se.so 0 (v := .map _) hs rfl rfl rfl rfl rfl (by kernel_rfl) (by simp) ?_) | refine Se.toL rfl (Se.so 0 (v := .func _ _ _) hs rfl rfl rfl rfl rfl (by kernel_rfl) (by simp) ?_) | refine Se.toL rfl (Se.so 0 (v := .nilFunc) hs rfl rfl rfl rfl rfl (by kernel_rfl) (by simp) ?_)); clear hs; intro w hs; try simp only [List.cons_append, List.nil_append, List.set_cons_zero] at hs)) | ((with_reducible refine Se.isL (o := ⟨some 9, _, _, _, _, _⟩) ?_); (refine Se.toL rfl (Se.ld (o := ⟨some 9, _, _, _, _, _⟩) hs rfl rfl (Cell.blk 1 rfl rfl) (by kernel_rfl) ?_))) | ((first | with_reducible refine Se.ab hs ?_ | with_reducible refine Se.abc hs ?_); clear hs; (first | (generalize w.heap.size = g3; intro w hs))) | (go_at_call 24; refine Calls.mono (CC.out [_] _ hs) ?_; clear hs; rintro e w ⟨rfl, hs⟩))
 go_ret
 refine ⟨#[.pointer (some ⟨g6, 0, none⟩), .pointer (some ⟨g5, 0, none⟩)], [.blk g6 106 [.slice none 0 0]], rfl, each2_nil z, ?_⟩
 exact hs.sub (List.Sublist.cons_cons _ (.cons _ (.cons _ (List.Sublist.refl _))))
theorem perm3 {a b c : At} {M L : List At} : (a :: b :: c :: (M ++ L)).Perm (M ++ (a :: b :: c :: L)) := List.perm_append_comm_assoc [a, b, c] M L
theorem is_M {g cc : Nat} {z : Zs} {a : Addr} {r : Option Nat} {A : Option Addr} {ZI : List Value} {M : List At} (hs : St w0 X (M ++ pZ g z (some a) cc :: pL r (some a) cc z :: .rd A (ocs z.l) :: L) w) (ho : OkZ z) (hz : RZ z A ZI) :
  Calls Try.prog 19 #[.pointer (some ⟨g, 0, none⟩), .agg ZI.toArray] w fun e w' => e = .returned (.bool true) ∧ St w0 X (M ++ pZ g z (some a) cc :: pL r (some a) cc z :: .rd A (ocs z.l) :: L) w' := by
 refine (is_st (hs.perm perm3.symm) ho hz).mono ?_
 rintro e w ⟨h1, h2⟩
 exact ⟨h1, h2.perm perm3⟩
/-- A call of the laws. -/
structure Ac where
 wh : Int
 zi : Int
 off : Int
 n : Int
def ac (a : Ac) : List Value := [.int .i64 a.wh, .int .i64 a.zi, .int .i64 a.off, .int .i64 a.n]
/-- A configuration that is fine is one of natural numbers. -/
theorem cf_of {n sz cap mo ma : Int} (h : okC n sz cap mo ma = true) : ∃ c : Cf, n = c.n ∧ sz = c.sz ∧ cap = c.cap ∧ mo = c.mo ∧ ma = c.ma := by
 simp only [okC, decide_eq_true_eq] at h
 exact ⟨⟨n.toNat, sz.toNat, cap.toNat, mo.toNat, ma.toNat⟩, by dsimp only; omega, by dsimp only; omega, by dsimp only; omega, by dsimp only; omega, by dsimp only; omega⟩
section
variable {H : Type} {enc : TypeId × Value → H} {W : World} {r : Reach} {base : Nat} {v : Value} {d : DataW H} {p : List MemPlace}
theorem wf_i64 {z : Int} (h : (Lit.int .i64 z).wf = true) : z ≤ 9223372036854775807 := by
 have : -9223372036854775808 ≤ z ∧ z ≤ 9223372036854775807 := by simpa [Lit.wf, IntKind.min, IntKind.max, IntKind.signed, IntKind.bits] using h
 exact this.2
abbrev cfgK : List (Option IntKind) := [some .i64, some .i64, some .i64, some .i64, some .i64]
abbrev actK : List (Option IntKind) := [some .i64, some .i64, some .i64, some .i64]
theorem act_of {x : List Value} (h : Lift.fit actK x) : ∃ a : Ac, x = ac a ∧ a.n ≤ 9223372036854775807 := by
 obtain ⟨_, _, rfl, ⟨a0, rfl, _⟩, _, _, rfl, ⟨a1, rfl, _⟩, _, _, rfl, ⟨a2, rfl, _⟩, _, _, rfl, ⟨a3, rfl, h3⟩, h⟩ := h
 obtain rfl := h
 exact ⟨⟨a0, a1, a2, a3⟩, rfl, wf_i64 h3⟩
set_option maxRecDepth 100000 in
theorem open_act (hv : Value.okWide Try.prog W r base 57 v) (h : DataW.Trod enc Try.prog W 0 (fun _ => true) true 57 v d p) : ∃ wh zi off n : Int, v = .agg #[.int .i64 wh, .int .i64 zi, .int .i64 off, .int .i64 n] ∧ n ≤ 9223372036854775807 := by
 obtain ⟨cs, rfl, hf⟩ := Lift.open_flatv (ks := actK) 3 (by kernel_rfl) (by kernel_rfl) hv h
 obtain ⟨a, rfl, ha⟩ := act_of hf
 exact ⟨_, _, _, _, rfl, ha⟩
set_option maxRecDepth 100000 in
theorem open_cfg (hv : Value.okWide Try.prog W r base 24 v) (h : DataW.Trod enc Try.prog W 0 (fun _ => true) true 24 v d p) : ∃ n sz cap mo ma : Int, v = .agg #[.int .i64 n, .int .i64 sz, .int .i64 cap, .int .i64 mo, .int .i64 ma] := by
 obtain ⟨cs, rfl, hf⟩ := Lift.open_flatv (ks := cfgK) 3 (by kernel_rfl) (by kernel_rfl) hv h
 obtain ⟨_, _, rfl, ⟨a0, rfl, _⟩, _, _, rfl, ⟨a1, rfl, _⟩, _, _, rfl, ⟨a2, rfl, _⟩, _, _, rfl, ⟨a3, rfl, _⟩, _, _, rfl, ⟨a4, rfl, _⟩, h5⟩ := hf
 obtain rfl := h5
 exact ⟨_, _, _, _, _, rfl⟩
end
end Zo
end Go.Proofs.Ythpgkkfahiglnaa

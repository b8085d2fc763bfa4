/- Layer 28: the methods of nil and of zero zones. No condition but Go's own limits. Printed by wip/gen_zonenil.py. -/
import Derived.Test.YthpgkkfahiglnaaZoneEach
import Derived.Test.YthpgkkfahiglnaaZoneRead
set_option maxRecDepth 100000
set_option maxHeartbeats 4000000
set_option linter.unusedSimpArgs false
set_option linter.unusedVariables false
namespace Go.Proofs.Ythpgkkfahiglnaa
open Go Go.RowKit
namespace Zo
open Se (St At Reads Cell)
open Li (Rd Blk Fr)
variable {w0 w : World} {X : List Nat} {L : List At} {P : Option Addr}
attribute [local irreducible] Calls
attribute [local go_sem] eql_nil eql_nil2
def ZZ : List Value := zcl { c := ⟨0, 0, 0, 0, 0⟩, l := [] } none 0
def NZ (L : List At) (P : Option Addr) : Prop := P = none ∨ ∃ g, P = some ⟨g, 0, none⟩ ∧ At.blk g 71 ZZ ∈ L
theorem NZ.app {L : List At} {P : Option Addr} (h : NZ L P) (M : List At) : NZ (M ++ L) P := by
 rcases h with h | ⟨g, h, h2⟩
 ·exact .inl h
 ·exact .inr ⟨g, h, List.mem_append.2 (.inr h2)⟩
theorem none_nil (hs : St w0 X L w) (hz : NZ L P) : Calls Try.prog 42 #[.pointer P] w fun e w' => e = .returned (.bool true) ∧ St w0 X L w' := by
 rcases hz with rfl | ⟨g, rfl, hm⟩
 ·go_enter Try.func42, Try.ntmps42
  go_wp2_with fail
  go_ret
  exact ⟨rfl, hs⟩
 ·have HC : Hid (Cell L g 5 (.slice none 0 0)) := Lib.hid (fun w hw => by
   have h : Blk w g ZZ 71 := hw _ hm
   rw [h.cell]
   rfl)
  clear hm
  go_enter Try.func42, Try.ntmps42
  go_wp2_with (first | ((with_reducible refine Se.isL (o := ⟨some 9, _, _, _, _, _⟩) ?_); (refine Se.toL rfl (Se.ld (o := ⟨some 9, _, _, _, _, _⟩) hs rfl rfl (HC.out) (by kernel_rfl) ?_))))
  go_ret
  exact ⟨rfl, hs⟩
theorem try_nil (hs : St w0 X L w) (hz : NZ L P) (f : Value) : Calls Try.prog 34 #[.pointer P, f] w fun e w' => e = .returned (.agg (stl 6).toArray) ∧ St w0 X L w' := by
 have CN : Hid (∀ (M : List At) (w : World), St w0 X (M ++ L) w → Calls Try.prog 42 #[.pointer P] w fun e w' => e = .returned (.bool true) ∧ St w0 X (M ++ L) w') := Lib.hid (fun M w hs => none_nil hs (hz.app M))
 have MF : Hid (∀ (L : List At) (w : World), St w0 X L w → Calls Try.prog 36 #[.bool false, .int .u8 6] w fun e w' => e = .panicked (chS 6) ∧ St w0 X L w') := Lib.hid (fun L w hs => must_f hs 6 (by decide))
 have ZS : Hid ((Try.prog.info? 32).bind (fun i => i.zero.map (·.cells.toList)) = some st0) := Lib.hid zSt
 have KL := Lib.hid (stl_len 6)
 clear hz
 go_enter_defers Try.func34, Try.ntmps34
 go_wp2_with (first | ((with_reducible refine Se.isL (o := ⟨some 4, _, _, _, _, _⟩) ?_); (refine Se.toL rfl (Se.al (o := ⟨some 4, _, _, _, _, _⟩) hs rfl (ZS.out) ?_); clear hs; rintro w g4 - hs)) | (go_at_call 42; refine Calls.mono (CN.out [_] _ hs) ?_; clear hs; rintro e w ⟨rfl, hs⟩) | (go_at_call 36; refine Calls.mono (MF.out _ _ hs) ?_; clear hs; rintro e w ⟨rfl, hs⟩))
 refine leaves_cons (f := 41) (args := #[.pointer (some ⟨g4, 0, none⟩)]) (by simp) (by simp [go_sem]) ?_
 refine (caught_panic 6 g4 rfl hs).mono ?_
 rintro e' u' w'' ⟨rfl, rfl, hs⟩
 refine ⟨_, run_results_row hs Try.results34 rfl (Reads.blk 0 rfl) (by kernel_rfl) (by rw [KL.out] <;> kernel_rfl), ?_⟩
 exact ⟨rfl, hs.drop⟩
theorem append_nil (hs : St w0 X L w) (hz : NZ L P) (x y : Int) : Calls Try.prog 40 #[.pointer P, .int .i64 x, .int .i64 y] w fun e w' => e = .returned (.tuple #[iv 0, .agg (stl 6).toArray]) ∧ St w0 X L w' := by
 have CT : Hid (∀ (M : List At) (w : World) (f : Value), St w0 X (M ++ L) w → Calls Try.prog 34 #[.pointer P, f] w fun e w' => e = .returned (.agg (stl 6).toArray) ∧ St w0 X (M ++ L) w') := Lib.hid (fun M w f hs => try_nil hs (hz.app M) f)
 obtain ⟨S, hS⟩ : ∃ S, S = stl 6 := ⟨_, rfl⟩
 have SL := Lib.hid (show S.length = 4 by rw [hS]; exact stl_len _)
 have SO := Lib.hid (show ∀ v ∈ S, v.oneCell' = true by rw [hS]; exact stl_one _)
 have ZL := Lib.hid (show st0.length = 4 from rfl)
 have ZS : Hid ((Try.prog.info? 32).bind (fun i => i.zero.map (·.cells.toList)) = some st0) := Lib.hid zSt
 rw [← hS] at CT ⊢
 clear hz hS
 obtain ⟨at0, hat⟩ : ∃ a : Nat, a = 0 := ⟨_, rfl⟩
 have zIn' : Hid ((Try.prog.info? 3).bind (fun i => i.zero.map (·.cells.toList)) = some [iv at0]) := Lib.hid (by rw [hat]; exact zIn)
 rw [← hat]
 clear hat
 go_enter Try.func40, Try.ntmps40
 go_upto_region 2 with (first | ((with_reducible refine Se.isL (o := ⟨some 6, _, _, _, _, _⟩) ?_); (refine Se.toL rfl (Se.al (o := ⟨some 6, _, _, _, _, _⟩) hs rfl (zIn'.out) ?_); clear hs; rintro w g6 - hs)) | ((with_reducible refine Se.isL (o := ⟨some 7, _, _, _, _, _⟩) ?_); (refine Se.toL rfl (Se.al (o := ⟨some 7, _, _, _, _, _⟩) hs rfl (ZS.out) ?_); clear hs; rintro w g7 - hs)) | ((with_reducible refine Se.isL (o := ⟨none, _, _, _, _, _⟩) ?_); (refine Se.toL rfl (Se.sow 0 hs rfl rfl rfl rfl (SO.out) ((by rw [SL.out]; kernel_rfl)) ((by rw [SL.out, ZL.out])) ?_); clear hs; intro w hs; try simp only [List.cons_append, List.nil_append, List.set_cons_zero] at hs)) | ((first | with_reducible refine Se.ab hs ?_ | with_reducible refine Se.abc hs ?_); clear hs; (first | ((fail_if_success (have _q := g5)); generalize w.heap.size = g5; intro w hs) | (generalize w.heap.size = g4; intro w hs))) | (go_at_call 34; refine Calls.mono (CT.out [_, _, _, _] _ _ hs) ?_; clear hs; rintro e w ⟨rfl, hs⟩))
 refine Ch.region' 3 (fun wx => wx.cell? ⟨g6, 0, none⟩ = some (iv at0) ∧ Blk wx g7 S 32) (fun | 2 => true | _ => false) (by kernel_rfl) (by decide +kernel) (⟨(Cell.blk 1 rfl rfl : Cell _ g6 0 (iv at0)) _ hs.drew.hold, hs.drew.hold (.blk g7 32 S) (by simp)⟩) ?_
 replace hs := hs.drew
 generalize w.drew = w at hs ⊢
 change Ch.CW _ _ _ _ _ [0, 1, 2] _ _
 refine Ch.pure (v := iv at0) (by rfl) (by rfl) (by rfl) (fun wx hS => Se.xl rfl rfl hS.1 (by decide +kernel)) ?_
 (try simp only [Act.put, List.setIfInBounds_toArray, List.set_cons_zero, List.set_cons_succ])
 refine Ch.pure (v := .agg S.toArray) (by rfl) (by rfl) (by rfl) (fun wx hS => Se.xla rfl rfl (Li.Rd.of_blk hS.2) (by rw [SL.out] <;> kernel_rfl) (by kernel_rfl)) ?_
 (try simp only [Act.put, List.setIfInBounds_toArray, List.set_cons_zero, List.set_cons_succ])
 refine Ch.noise (by rfl) (by rfl) (by rfl) (Se.so 1 (v := iv at0) hs rfl rfl rfl rfl rfl (by kernel_rfl) (by simp) ?_)
 clear hs
 intro w hs
 simp only [List.cons_append, List.nil_append, List.set_cons_zero, List.set_cons_succ] at hs
 refine ⟨⟨(Cell.blk 1 rfl rfl : Cell _ g6 0 (iv at0)) _ hs.hold, hs.hold (.blk g7 32 S) (by simp)⟩, ?_⟩
 (try simp only [Act.put, List.setIfInBounds_toArray, List.set_cons_zero, List.set_cons_succ])
 refine Ch.done ?_
 try simp only [List.drop_succ_cons, List.drop_zero]
 go_wp2_with (first | ((with_reducible refine Se.isL (o := ⟨none, _, _, _, _, _⟩) ?_); (refine Se.toL rfl (Se.sow 0 hs rfl rfl rfl rfl (SO.out) ((by rw [SL.out]; kernel_rfl)) (rfl) ?_); clear hs; intro w hs; try simp only [List.cons_append, List.nil_append, List.set_cons_zero] at hs)))
 refine bodyPost_ret (v := .tuple #[iv at0, .agg S.toArray]) ?_ rfl ?_
 ·exact run_results_cr hs rfl rfl (Cell.blk 1 rfl rfl) (by kernel_rfl) rfl (Reads.blk 0 rfl) (by kernel_rfl) (by rw [SL.out] <;> kernel_rfl)
 ·exact ⟨rfl, hs.drop.drop.drop.drop⟩
def z5 : List Value := cl ⟨0, 0, 0, 0, 0⟩
end Zo
end Go.Proofs.Ythpgkkfahiglnaa


/- Layer 35: an error that is raised becomes a result (defer, recover). No condition. -/
import Derived.Defers
import Derived.Recover
import Derived.Test.YtdngfcmakjlamaaPduShape
set_option linter.unusedSimpArgs false
set_option linter.unusedVariables false
namespace Go.Proofs.Ytdngfcmakjlamaa
open Go Go.RowKit
namespace Pd
open Se (St At Reads Cell)
open Li (v8 v8_one Rd Blk Fr)
open Bv (n8 n16 n32 n64)
variable {w0 w : World} {X : List Nat} {L : List At}
attribute [local irreducible] Calls
theorem ta_errno (v : Value) (w : World) : (Instr.typeAssert (.iface 27 v) 20 27 false).run Try.prog w = .ok v w := by kernel_rfl
set_option maxRecDepth 100000 in
set_option maxHeartbeats 4000000 in
theorem caught_some (e m g : Nat) (hs : St w0 X (.blk g 27 [iv m] :: L) w) : Calls Try.prog 90 #[.iface 27 (iv e), .pointer (some ⟨g, 0, none⟩)] w fun e' w' => e' = .returned (.tuple #[]) ∧ St w0 X (.blk g 27 [iv e] :: L) w' := by
 have ta := ta_errno
 go_enter Try.func90, Try.ntmps90
 go_wp2_with (first | ((with_reducible refine Se.isL (o := ⟨none, _, _, _, _, _⟩) ?_); ((first | refine Se.toL rfl (Se.so 0 (v := .int _ _) hs rfl rfl rfl rfl rfl (by kernel_rfl) (by simp) ?_) | refine Se.toL rfl (Se.so 0 (v := .bool _) hs rfl rfl rfl rfl rfl (by kernel_rfl) (by simp) ?_) | refine Se.toL rfl (Se.so 0 (v := .slice _ _ _) hs rfl rfl rfl rfl rfl (by kernel_rfl) (by simp) ?_) | refine Se.toL rfl (Se.so 0 (v := .pointer _) hs rfl rfl rfl rfl rfl (by kernel_rfl) (by simp) ?_) | refine Se.toL rfl (Se.so 0 (v := .string _) hs rfl rfl rfl rfl rfl (by kernel_rfl) (by simp) ?_) | refine Se.toL rfl (Se.so 0 (v := .map _) hs rfl rfl rfl rfl rfl (by kernel_rfl) (by simp) ?_) | refine Se.toL rfl (Se.so 0 (v := .func _ _ _) hs rfl rfl rfl rfl rfl (by kernel_rfl) (by simp) ?_) | refine Se.toL rfl (Se.so 0 (v := .nilFunc) hs rfl rfl rfl rfl rfl (by kernel_rfl) (by simp) ?_)); clear hs; intro w hs; try simp only [List.cons_append, List.nil_append, List.set_cons_zero] at hs)))
 go_end0
 exact ⟨rfl, hs⟩
set_option maxRecDepth 100000 in
set_option maxHeartbeats 4000000 in
theorem caught_none (g : Nat) (hs : St w0 X L w) : Calls Try.prog 90 #[.nilIface, .pointer (some ⟨g, 0, none⟩)] w fun e' w' => e' = .returned (.tuple #[]) ∧ St w0 X L w' := by
 go_enter Try.func90, Try.ntmps90
 go_wp2_with fail
 go_end0
 exact ⟨rfl, hs⟩
set_option maxRecDepth 100000 in
set_option maxHeartbeats 4000000 in
theorem measure1_panic (e m g : Nat) (hs : St w0 X (.blk g 27 [iv m] :: L) w) : CallsD Try.prog 89 #[.pointer (some ⟨g, 0, none⟩)] (.panicking [{ v := .iface 27 (iv e), recovered := false }]) w fun e' u' w' => e' = .returned (.tuple #[]) ∧ u' = .panicking [{ v := .iface 27 (iv e), recovered := true }] ∧ St w0 X (.blk g 27 [iv e] :: L) w' := by
 have C := Lib.hid (caught_some e m g hs)
 refine callsD_of_wpS Try.func89 rfl fun c₀ cs hu => ?_
 apply wpS_region
 simp [wpOpsS, go_sem, recoverD, hu, Try.ntmps89, Exit.thenS]
 refine Calls.mono C.out ?_
 rintro e' w' ⟨rfl, hs'⟩
 simp [wpOpsS, go_sem, bodyPostS, results, Try.results89]
 exact hs'
set_option maxRecDepth 100000 in
set_option maxHeartbeats 4000000 in
theorem measure1_idle (g : Nat) (hs : St w0 X L w) : CallsD Try.prog 89 #[.pointer (some ⟨g, 0, none⟩)] .returning w fun e' u' w' => e' = .returned (.tuple #[]) ∧ u' = .returning ∧ St w0 X L w' := by
 have C := Lib.hid (caught_none g hs)
 refine callsD_of_wpS Try.func89 rfl fun c₀ cs hu => ?_
 apply wpS_region
 simp [wpOpsS, go_sem, recoverD, hu, Try.ntmps89, Exit.thenS]
 refine Calls.mono C.out ?_
 rintro e' w' ⟨rfl, hs'⟩
 simp [wpOpsS, go_sem, bodyPostS, results, Try.results89]
 exact ⟨.returning, by cases c₀; simp_all, rfl, hs'⟩
end Pd
end Go.Proofs.Ytdngfcmakjlamaa


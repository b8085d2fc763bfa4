/- Layer 35: Measure. No condition but Go's own limits. -/
import Derived.Test.YtdngfcmakjlamaaPduMeasW
import Derived.Test.YtdngfcmakjlamaaPduCaught
set_option linter.unusedSimpArgs false
set_option linter.unusedVariables false
namespace Go.Proofs.Ytdngfcmakjlamaa
open Go Go.RowKit
namespace Pd
open Se (St At Reads Cell)
open Li (v8 v8_one Rd Blk Fr)
open Bv (n8 n16 n32 n64)
variable {w0 w : World} {X : List Nat} {L : List At}
attribute [local irreducible] Calls
theorem zErr : (Try.prog.info? 27).bind (fun i => i.zero.map (·.cells.toList)) = some [iv 0] := by kernel_rfl
theorem meas_err {b : List (BitVec 8)} {f : Fm} {t e : Nat} (h : meas b f = (t, e)) (he : e ≠ 0) : t = 0 := by
 rw [meas_eq] at h
 unfold mch at h
 dsimp only at h
 repeat' split at h
 all_goals (cases h; first | rfl | exact absurd rfl he)
theorem run_results2 (hs : St w0 X L w) {tmps : Array Value} {v : Value} {g : Nat} {m : Nat} (h1 : tmps.getD 4 undef = v) (h2 : tmps.getD 5 undef = .pointer (some ⟨g, 0, none⟩)) (hr : Reads L (some ⟨g, 0, none⟩) [iv m]) (hu : Try.prog.underlying 27 = some (.int .i64)) (hi : (Try.prog.info? 27).map (·.size) = some 1) : (results Try.f69 tmps).run Try.prog w = .ok (.tuple #[v, iv m]) w := by
 have hc : w.cell? ⟨g, 0, none⟩ = some (iv m) := by
  have := (hr w hs.hold)
  obtain ⟨g', off', e, h⟩ := Rd_cell this 0 (v := iv m) rfl
  cases e
  exact h
 have h1' : tmps[4]?.getD undef = v := by simpa using h1
 have h2' : tmps[5]?.getD undef = .pointer (some ⟨g, 0, none⟩) := by simpa using h2
 simp [results, Try.results69, go_sem, h1', h2', hc]
set_option maxRecDepth 100000 in
set_option maxHeartbeats 4000000 in
theorem measureD_st (hs : St w0 X L w) (bs : List (BitVec 8)) (f : Fm) {S : Option Addr} {n c : Nat} (hn : n = bs.length) (hS : Reads L S (bs.map v8)) (hc : n ≤ c) (hle : n ≤ 70368744177664) {t e : Nat} (hm : meas bs f = (t, e)) :
  Calls Try.prog 69 #[.slice S n c, fv f] w fun e' w' => e' = .returned (.tuple #[iv t, iv e]) ∧ St w0 X L w' := by
 obtain ⟨F, hF⟩ : ∃ F, F = fl f := ⟨_, rfl⟩
 obtain ⟨xs, hxs⟩ : ∃ xs, shV (bs.getD 0 0#8).toNat = xs := ⟨_, rfl⟩
 have FL := Lib.hid (show F.length = 3 by rw [hF]; rfl)
 have HT := Lib.hid (fun he : e ≠ 0 => meas_err hm he)
 have CM : Hid (∀ (L' : List At) (w : World), St w0 X (L' ++ L) w → Calls Try.prog 91 #[.slice S n c, .agg F.toArray] w fun e' w' => e' = mEnd xs t e ∧ St w0 X (L' ++ L) w') := Lib.hid (fun L' w hs => by rw [hF, ← fv_eq]; exact measure_st hs bs f hn (hS.app L') hc hle hm hxs)
 have ZE := Lib.hid zErr
 have hmf : ∀ (fn : Fn) (first cap : Array Value) (w : World), (Instr.makeFunc fn first cap).run Try.prog w = .ok (.func fn first cap) w := fun _ _ _ _ => rfl
 rw [fv_eq, ← hF]
 clear hm hxs hF hS hn hc hle
 by_cases he : e = 0
 ·subst he
  have CM2 : Hid (∀ (L' : List At) (w : World), St w0 X (L' ++ L) w → Calls Try.prog 91 #[.slice S n c, .agg F.toArray] w fun e' w' => e' = .returned (.tuple #[.agg xs.toArray, iv t]) ∧ St w0 X (L' ++ L) w') := CM
  clear CM HT
  go_enter_defers Try.func69, Try.ntmps69
  go_wp2_with (first | ((with_reducible refine Se.isL (o := ⟨some 5, _, _, _, _, _⟩) ?_); (refine Se.toL rfl (Se.al (o := ⟨some 5, _, _, _, _, _⟩) hs rfl (ZE.out) ?_); clear hs; rintro w g5 - hs)) | ((with_reducible refine Se.isL (o := ⟨some 9, _, _, _, _, _⟩) ?_); (refine Se.toL rfl (Se.ldw (o := ⟨some 9, _, _, _, _, _⟩) hs rfl rfl ((Reads.blk 1 rfl)) ((by rw [FL.out]; kernel_rfl)) (by kernel_rfl) ?_))) | ((with_reducible refine Se.isL (o := ⟨none, _, _, _, _, _⟩) ?_); ((first | refine Se.toL rfl (Se.so 0 (v := .int _ _) hs rfl rfl rfl rfl rfl (by kernel_rfl) (by simp) ?_) | refine Se.toL rfl (Se.so 0 (v := .bool _) hs rfl rfl rfl rfl rfl (by kernel_rfl) (by simp) ?_) | refine Se.toL rfl (Se.so 0 (v := .slice _ _ _) hs rfl rfl rfl rfl rfl (by kernel_rfl) (by simp) ?_) | refine Se.toL rfl (Se.so 0 (v := .pointer _) hs rfl rfl rfl rfl rfl (by kernel_rfl) (by simp) ?_) | refine Se.toL rfl (Se.so 0 (v := .string _) hs rfl rfl rfl rfl rfl (by kernel_rfl) (by simp) ?_) | refine Se.toL rfl (Se.so 0 (v := .map _) hs rfl rfl rfl rfl rfl (by kernel_rfl) (by simp) ?_) | refine Se.toL rfl (Se.so 0 (v := .func _ _ _) hs rfl rfl rfl rfl rfl (by kernel_rfl) (by simp) ?_) | refine Se.toL rfl (Se.so 0 (v := .nilFunc) hs rfl rfl rfl rfl rfl (by kernel_rfl) (by simp) ?_)); clear hs; intro w hs; try simp only [List.cons_append, List.nil_append, List.set_cons_zero] at hs)) | ((first | with_reducible refine Se.ab hs ?_ | with_reducible refine Se.abc hs ?_); clear hs; (first | (generalize w.heap.size = g3; intro w hs))) | (go_at_call 91; refine Calls.mono (CM2.out [_, _] _ hs) ?_; clear hs; rintro e w ⟨rfl, hs⟩))
  refine leaves_cons (f := 89) (args := #[.pointer (some ⟨g5, 0, none⟩)]) (by simp) (by simp [go_sem]) ?_
  refine (measure1_idle g5 hs).mono ?_
  rintro e u' w'' ⟨rfl, rfl, hs⟩
  refine ⟨_, run_results2 hs rfl rfl (Reads.blk 0 rfl) Try.underlying27 (by kernel_rfl), rfl, hs.drop.drop⟩
 ·have CM2 : Hid (∀ (L' : List At) (w : World), St w0 X (L' ++ L) w → Calls Try.prog 91 #[.slice S n c, .agg F.toArray] w fun e' w' => e' = .panicked (chn e) ∧ St w0 X (L' ++ L) w') := Lib.hid (by have := CM.out; unfold mEnd at this; rwa [if_neg he] at this)
  obtain rfl := HT.out he
  clear CM HT
  go_enter_defers Try.func69, Try.ntmps69
  go_wp2_with (first | ((with_reducible refine Se.isL (o := ⟨some 5, _, _, _, _, _⟩) ?_); (refine Se.toL rfl (Se.al (o := ⟨some 5, _, _, _, _, _⟩) hs rfl (ZE.out) ?_); clear hs; rintro w g5 - hs)) | ((with_reducible refine Se.isL (o := ⟨some 9, _, _, _, _, _⟩) ?_); (refine Se.toL rfl (Se.ldw (o := ⟨some 9, _, _, _, _, _⟩) hs rfl rfl ((Reads.blk 1 rfl)) ((by rw [FL.out]; kernel_rfl)) (by kernel_rfl) ?_))) | ((first | with_reducible refine Se.ab hs ?_ | with_reducible refine Se.abc hs ?_); clear hs; (first | (generalize w.heap.size = g3; intro w hs))) | (go_at_call 91; refine Calls.mono (CM2.out [_, _] _ hs) ?_; clear hs; rintro e w ⟨rfl, hs⟩))
  refine leaves_cons (f := 89) (args := #[.pointer (some ⟨g5, 0, none⟩)]) (by simp) (by simp [go_sem]) ?_
  refine (measure1_panic e 0 g5 hs).mono ?_
  rintro e' u' w'' ⟨rfl, rfl, hs⟩
  refine ⟨_, run_results2 hs rfl rfl (Reads.blk 0 rfl) Try.underlying27 (by kernel_rfl), rfl, hs.drop.drop⟩
end Pd
end Go.Proofs.Ytdngfcmakjlamaa


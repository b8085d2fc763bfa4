/- Layer 35: Decode. No condition but Go's own limits. -/
import Derived.Test.YtdngfcmakjlamaaPduDecP
import Derived.Test.YtdngfcmakjlamaaPduMeasD
import Derived.Test.YtdngfcmakjlamaaPduRDec
set_option linter.unusedSimpArgs false
set_option linter.unusedVariables false
namespace Go.Proofs.Ytdngfcmakjlamaa
open Go Go.RowKit
namespace Se
open Li (Blk Rd Fr)
/-- The results of a function: a row and a scalar, both in memory. -/
theorem run_results_rc {P : Program} {w0 w : World} {X : List Nat} {L : List At} (hs : St w0 X L w) {fn : Func} {tmps : Array Value} {p1 p2 : Tmp} {t1 t2 : TypeId} {g1 g2 : Nat} {xs : List Value} {v : Value} (hr : fn.results = #[.cell p1 t1, .cell p2 t2])
  (h1 : tmps.getD p1 undef = .pointer (some ⟨g1, 0, none⟩)) (hR : Reads L (some ⟨g1, 0, none⟩) xs) (hd : (P.underlying t1).map TypeDesc.isRow = some true) (hi : (P.info? t1).map (·.size) = some xs.length)
  (h2 : tmps.getD p2 undef = .pointer (some ⟨g2, 0, none⟩)) (hc : Cell L g2 0 v) (hd2 : (P.underlying t2).map TypeDesc.isRow = some false) : (results fn tmps).run P w = .ok (.tuple #[.agg xs.toArray, v]) w := by
 have e : results fn tmps = (do
   let vs ← fn.results.mapM (resF tmps)
   pure (if h : vs.size = 1 then vs[0] else .tuple vs)) := rfl
 rw [e, hr]
 have l1 := run_loadVar_reads hs hR hd hi
 have l2 : (loadVar t2 ⟨g2, 0, none⟩).run P w = .ok v w := by
  simp [loadVar, Sem.run_bind, run_isRow hd2, hc w hs.hold]
 have e2 : Sem.run P (Array.mapM (resF tmps) [ResultVar.cell p1 t1, .cell p2 t2].toArray) w = .ok #[.agg xs.toArray, v] w := by
  rw [List.mapM_toArray, map_eq_pure_bind, Sem.run_bind]
  have : (List.mapM (resF tmps) [ResultVar.cell p1 t1, .cell p2 t2]).run P w = .ok [.agg xs.toArray, v] w := by
   simp only [List.mapM_cons, List.mapM_nil, Sem.run_bind, Sem.run_pure, Result.andThen_ok, resF, h1, h2, asAddr, l1, l2]
  rw [this]
  simp
 simp only [Sem.run_bind]
 rw [e2]
 simp
end Se
namespace Pd
open Se (St At Reads Cell)
open Li (v8 v8_one Rd Blk Fr)
open Bv (n8 n16 n32 n64)
variable {w0 w : World} {X : List Nat} {L : List At}
attribute [local irreducible] Calls
theorem dec_err {b : List (BitVec 8)} {f : Fm} {P : PDU} {e : Nat} (h : dec b f = (P, e)) (he : e ≠ 0) : P = {} := by
 unfold dec at h
 dsimp only at h
 repeat' split at h
 all_goals (cases h; first | rfl | exact absurd rfl he)
theorem decode_st (hs : St w0 X L w) (bs : List (BitVec 8)) (f : Fm) {S : Option Addr} {n c : Nat} (hn : n = bs.length) (hS : Reads L S (bs.map v8)) (hc : n ≤ c) (hle : n ≤ 70368744177664) {P : PDU} {e' : Nat} (hd : dec bs f = (P, e')) :
  Calls Try.prog 93 #[.slice S n c, fv f] w (DGive P e' w0 X L) := by
 obtain ⟨⟨t, e⟩, hm⟩ : ∃ x, meas bs f = x := ⟨_, rfl⟩
 by_cases h0 : e = 0 ∧ t = n
 ·obtain ⟨rfl, rfl⟩ := h0
  exact decode_fin hs bs f hn hS hc hle hm hd
 ·have he : e ≠ 0 ∨ t ≠ n := by
   by_cases h1 : e = 0
   ·exact .inr fun h2 => h0 ⟨h1, h2⟩
   ·exact .inl h1
  refine (decode_err hs bs f hn hS hc hle hm he hd).mono ?_
  rintro r w' ⟨h1, h2, h3⟩
  exact .inl ⟨h2, h1, h3⟩
set_option maxRecDepth 100000 in
set_option maxHeartbeats 4000000 in
theorem decode1_panic (e m g : Nat) (hs : St w0 X (.blk g 27 [iv m] :: L) w) : CallsD Try.prog 92 #[.pointer (some ⟨g, 0, none⟩)] (.panicking [{ v := .iface 27 (iv e), recovered := false }]) w fun e' u' w' => e' = .returned (.tuple #[]) ∧ u' = .panicking [{ v := .iface 27 (iv e), recovered := true }] ∧ St w0 X (.blk g 27 [iv e] :: L) w' := by
 have C := Lib.hid (caught_some e m g hs)
 refine callsD_of_wpS Try.func92 rfl fun c₀ cs hu => ?_
 apply wpS_region
 simp [wpOpsS, go_sem, recoverD, hu, Try.ntmps92, Exit.thenS]
 refine Calls.mono C.out ?_
 rintro e' w' ⟨rfl, hs'⟩
 simp [wpOpsS, go_sem, bodyPostS, results, Try.results92]
 exact hs'
set_option maxRecDepth 100000 in
set_option maxHeartbeats 4000000 in
theorem decode1_idle (g : Nat) (hs : St w0 X L w) : CallsD Try.prog 92 #[.pointer (some ⟨g, 0, none⟩)] .returning w fun e' u' w' => e' = .returned (.tuple #[]) ∧ u' = .returning ∧ St w0 X L w' := by
 have C := Lib.hid (caught_none g hs)
 refine callsD_of_wpS Try.func92 rfl fun c₀ cs hu => ?_
 apply wpS_region
 simp [wpOpsS, go_sem, recoverD, hu, Try.ntmps92, Exit.thenS]
 refine Calls.mono C.out ?_
 rintro e' w' ⟨rfl, hs'⟩
 simp [wpOpsS, go_sem, bodyPostS, results, Try.results92]
 exact ⟨.returning, by cases c₀; simp_all, rfl, hs'⟩
/-- What Decode gives. -/
def DOut (P : PDU) (e : Nat) (w0 : World) (X : List Nat) (L : List At) (r : Ending) (w' : World) : Prop :=
 ∃ r1 EA ec r2 DA dc, r = .returned (.tuple #[.agg (pc P.h EA P.en.length ec DA P.da.length dc).toArray, iv e]) ∧ St w0 X (.own 1 r1 EA P.en.length ec (P.en.map v8) :: .own 1 r2 DA P.da.length dc (P.da.map v8) :: L) w'
set_option maxRecDepth 100000 in
set_option maxHeartbeats 4000000 in
theorem decodeD_st (hs : St w0 X L w) (bs : List (BitVec 8)) (f : Fm) {S : Option Addr} {n c : Nat} (hn : n = bs.length) (hS : Reads L S (bs.map v8)) (hc : n ≤ c) (hle : n ≤ 70368744177664) {P : PDU} {e : Nat} (hd : dec bs f = (P, e)) :
  Calls Try.prog 70 #[.slice S n c, fv f] w (DOut P e w0 X L) := by
 obtain ⟨F, hF⟩ : ∃ F, F = fl f := ⟨_, rfl⟩
 have FL := Lib.hid (show F.length = 3 by rw [hF]; rfl)
 have HP := Lib.hid (fun he : e ≠ 0 => dec_err hd he)
 have CD : Hid (∀ (L' : List At) (w : World), St w0 X (L' ++ L) w → Calls Try.prog 93 #[.slice S n c, .agg F.toArray] w (DGive P e w0 X (L' ++ L))) := Lib.hid (fun L' w hs => by rw [hF, ← fv_eq]; exact decode_st hs bs f hn (hS.app L') hc hle hd)
 have ZE := Lib.hid zErr
 have HZ := Lib.hid zPdu3
 have hmf : ∀ (fn : Fn) (first cap : Array Value) (w : World), (Instr.makeFunc fn first cap).run Try.prog w = .ok (.func fn first cap) w := fun _ _ _ _ => rfl
 rw [fv_eq, ← hF]
 clear hd hF hS hn hc hle
 by_cases he : e = 0
 ·subst he
  have CD2 : Hid (∀ (L' : List At) (w : World), St w0 X (L' ++ L) w → Calls Try.prog 93 #[.slice S n c, .agg F.toArray] w fun r w' => ∃ r1 EA ec r2 DA dc PC, r = .returned (.agg PC.toArray) ∧ Hid (PC = pc P.h EA P.en.length ec DA P.da.length dc) ∧ St w0 X (.own 1 r1 EA P.en.length ec (P.en.map v8) :: .own 1 r2 DA P.da.length dc (P.da.map v8) :: (L' ++ L)) w') := Lib.hid (fun L' w hs => (CD.out L' w hs).mono (by
   rintro r w' (⟨h, _⟩ | ⟨_, r1, EA, ec, r2, DA, dc, h1, h2⟩)
   ·exact absurd rfl h
   ·exact ⟨r1, EA, ec, r2, DA, dc, _, h1, Lib.hid rfl, h2⟩))
  clear CD HP
  go_enter_defers Try.func70, Try.ntmps70
  go_wp2_with (first | ((with_reducible refine Se.isL (o := ⟨some 4, _, _, _, _, _⟩) ?_); (refine Se.toL rfl (Se.al (o := ⟨some 4, _, _, _, _, _⟩) hs rfl (HZ.out) ?_); clear hs; rintro w g4 - hs)) | ((with_reducible refine Se.isL (o := ⟨some 5, _, _, _, _, _⟩) ?_); (refine Se.toL rfl (Se.al (o := ⟨some 5, _, _, _, _, _⟩) hs rfl (ZE.out) ?_); clear hs; rintro w g5 - hs)) | ((with_reducible refine Se.isL (o := ⟨some 8, _, _, _, _, _⟩) ?_); (refine Se.toL rfl (Se.ldw (o := ⟨some 8, _, _, _, _, _⟩) hs rfl rfl ((Reads.blk 2 rfl)) ((by rw [FL.out]; kernel_rfl)) (by kernel_rfl) ?_))) | ((with_reducible refine Se.isL (o := ⟨none, _, _, _, _, _⟩) ?_); (refine Se.toL rfl (Se.sow 3 hs rfl rfl rfl rfl ((by rw [HPC.out]; exact pc_one _ _ _ _ _ _ _)) ((by rw [HPC.out]; kernel_rfl)) ((by rw [HPC.out]; rfl)) ?_); clear hs; intro w hs; try simp only [List.cons_append, List.nil_append, List.set_cons_zero, List.set_cons_succ] at hs)) | ((with_reducible refine Se.isL (o := ⟨none, _, _, _, _, _⟩) ?_); ((first | refine Se.toL rfl (Se.so 2 (v := .int _ _) hs rfl rfl rfl rfl rfl (by kernel_rfl) (by simp) ?_) | refine Se.toL rfl (Se.so 2 (v := .bool _) hs rfl rfl rfl rfl rfl (by kernel_rfl) (by simp) ?_) | refine Se.toL rfl (Se.so 2 (v := .slice _ _ _) hs rfl rfl rfl rfl rfl (by kernel_rfl) (by simp) ?_) | refine Se.toL rfl (Se.so 2 (v := .pointer _) hs rfl rfl rfl rfl rfl (by kernel_rfl) (by simp) ?_) | refine Se.toL rfl (Se.so 2 (v := .string _) hs rfl rfl rfl rfl rfl (by kernel_rfl) (by simp) ?_) | refine Se.toL rfl (Se.so 2 (v := .map _) hs rfl rfl rfl rfl rfl (by kernel_rfl) (by simp) ?_) | refine Se.toL rfl (Se.so 2 (v := .func _ _ _) hs rfl rfl rfl rfl rfl (by kernel_rfl) (by simp) ?_) | refine Se.toL rfl (Se.so 2 (v := .nilFunc) hs rfl rfl rfl rfl rfl (by kernel_rfl) (by simp) ?_)); clear hs; intro w hs; try simp only [List.cons_append, List.nil_append, List.set_cons_zero, List.set_cons_succ] at hs)) | ((first | with_reducible refine Se.ab hs ?_ | with_reducible refine Se.abc hs ?_); clear hs; (first | (generalize w.heap.size = g3; intro w hs))) | (go_at_call 93; refine Calls.mono (CD2.out [_, _, _] _ hs) ?_; clear hs; rintro e w ⟨r1, EA, ec, r2, DA, dc, PC, rfl, HPC, hs⟩))
  refine leaves_cons (f := 92) (args := #[.pointer (some ⟨g5, 0, none⟩)]) (by simp) (by simp [go_sem]) ?_
  refine (decode1_idle g5 hs).mono ?_
  rintro e u' w'' ⟨rfl, rfl, hs⟩
  refine ⟨_, Se.run_results_rc hs Try.results70 rfl (Reads.blk 3 rfl) (by kernel_rfl) (by rw [HPC.out]; kernel_rfl) rfl (Cell.blk 2 rfl rfl) (by kernel_rfl), ?_⟩
  refine ⟨r1, EA, ec, r2, DA, dc, by rw [HPC.out]; rfl, ?_⟩
  exact hs.sub (List.Sublist.cons_cons _ (List.Sublist.cons_cons _ (.cons _ (.cons _ (.cons _ (List.Sublist.refl _))))))
 ·have CD2 : Hid (∀ (L' : List At) (w : World), St w0 X (L' ++ L) w → Calls Try.prog 93 #[.slice S n c, .agg F.toArray] w fun e' w' => e' = .panicked (chn e) ∧ St w0 X (L' ++ L) w') := Lib.hid (fun L' w hs => (CD.out L' w hs).mono (by
   rintro r w' (⟨_, h1, h2⟩ | ⟨h, _⟩)
   ·exact ⟨h1, h2⟩
   ·exact absurd h he))
  obtain rfl := HP.out he
  clear CD HP
  go_enter_defers Try.func70, Try.ntmps70
  go_wp2_with (first | ((with_reducible refine Se.isL (o := ⟨some 4, _, _, _, _, _⟩) ?_); (refine Se.toL rfl (Se.al (o := ⟨some 4, _, _, _, _, _⟩) hs rfl (HZ.out) ?_); clear hs; rintro w g4 - hs)) | ((with_reducible refine Se.isL (o := ⟨some 5, _, _, _, _, _⟩) ?_); (refine Se.toL rfl (Se.al (o := ⟨some 5, _, _, _, _, _⟩) hs rfl (ZE.out) ?_); clear hs; rintro w g5 - hs)) | ((with_reducible refine Se.isL (o := ⟨some 8, _, _, _, _, _⟩) ?_); (refine Se.toL rfl (Se.ldw (o := ⟨some 8, _, _, _, _, _⟩) hs rfl rfl ((Reads.blk 2 rfl)) ((by rw [FL.out]; kernel_rfl)) (by kernel_rfl) ?_))) | ((first | with_reducible refine Se.ab hs ?_ | with_reducible refine Se.abc hs ?_); clear hs; (first | (generalize w.heap.size = g3; intro w hs))) | (go_at_call 93; refine Calls.mono (CD2.out [_, _, _] _ hs) ?_; clear hs; rintro e w ⟨rfl, hs⟩))
  refine leaves_cons (f := 92) (args := #[.pointer (some ⟨g5, 0, none⟩)]) (by simp) (by simp [go_sem]) ?_
  refine (decode1_panic e 0 g5 hs).mono ?_
  rintro e' u' w'' ⟨rfl, rfl, hs⟩
  refine ⟨_, Se.run_results_rc hs Try.results70 rfl (Reads.blk 1 rfl) (by kernel_rfl) (by kernel_rfl) rfl (Cell.blk 0 rfl rfl) (by kernel_rfl), ?_⟩
  exact ⟨none, none, 0, none, none, 0, rfl, (hs.drop.drop.drop.nil_own 1 none).nil_own 1 none⟩
end Pd
end Go.Proofs.Ytdngfcmakjlamaa
/- Layer 35: Decode of the program and of the reference, their results named. No condition but Go's own limits. -/
namespace Go.Proofs.Ytdngfcmakjlamaa
open Go Go.RowKit
namespace Pd
open Se (St At Reads Cell)
open Li (v8 v8_one Rd Blk Fr)
open Bv (n8 n16 n32 n64)
variable {w0 w : World} {X : List Nat} {L : List At}
attribute [local irreducible] Calls
theorem same_self (p : PDU) : (p.en == p.en && p.da == p.da && eqH p.h p.h) = true := by
 rw [eqH_iff]; simp
/-- Decode, its result named. -/
theorem decodeN_st (hs : St w0 X L w) (bs : List (BitVec 8)) (f : Fm) {S : Option Addr} {n c : Nat} (hn : n = bs.length) (hS : Reads L S (bs.map v8)) (hc : n ≤ c) (hle : n ≤ 70368744177664) {P : PDU} {e : Nat} (hd : dec bs f = (P, e)) :
  Calls Try.prog 70 #[.slice S n c, fv f] w fun r w' => ∃ r1 EA ec r2 DA dc PC, r = .returned (.tuple #[.agg PC.toArray, iv e]) ∧ Hid (PC = pc P.h EA P.en.length ec DA P.da.length dc) ∧ St w0 X (.own 1 r1 EA P.en.length ec (P.en.map v8) :: .own 1 r2 DA P.da.length dc (P.da.map v8) :: L) w' :=
 (decodeD_st hs bs f hn hS hc hle hd).mono (by
  rintro r w' ⟨r1, EA, ec, r2, DA, dc, h1, h2⟩
  exact ⟨r1, EA, ec, r2, DA, dc, _, h1, Lib.hid rfl, h2⟩)
theorem rDecodeN_st (hs : St w0 X L w) (bs : List (BitVec 8)) (f : Fm) {S : Option Addr} {n c : Nat} (hn : n = bs.length) (hS : Reads L S (bs.map v8)) (hc : n ≤ c) (hle : n ≤ 70368744177664) {P : PDU} {e : Nat} (hd : dec bs f = (P, e)) :
  Calls Try.prog 72 #[.slice S n c, fv f] w fun r w' => ∃ EA ec DA dc PC, r = .returned (.tuple #[.agg PC.toArray, iv e]) ∧ Hid (PC = pc P.h EA P.en.length ec DA P.da.length dc) ∧ Hid (Reads L EA (P.en.map v8)) ∧ Hid (Reads L DA (P.da.map v8)) ∧ St w0 X L w' :=
 (rDecode_st hs bs f hn hS hc hle hd).mono (by
  rintro r w' ⟨EA, en, ec, DA, dn, dc, h1, h2, h3, h4, h5, h6⟩
  subst h2 h4
  exact ⟨EA, ec, DA, dc, _, h1, Lib.hid rfl, Lib.hid h3, Lib.hid h5, h6⟩)
end Pd
end Go.Proofs.Ytdngfcmakjlamaa


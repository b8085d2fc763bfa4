/- Layer 28: a zone's methods, statuses, panics; what zones look like in memory. No condition but Go's own limits. -/
import Derived.Test.YthpgkkfahiglnaaZoneSpec
import Derived.Defers
import Derived.Recover
set_option maxRecDepth 100000
set_option maxHeartbeats 4000000
set_option linter.unusedSimpArgs false
set_option linter.unusedVariables false
namespace Go.Proofs.Ythpgkkfahiglnaa
open Go Go.RowKit
namespace Zo
open Se (St At Reads Cell)
open Li (Rd Blk Fr)
variable {w0 w : World} {X : List Nat} {L : List At}
attribute [local irreducible] Calls
abbrev iv (n : Nat) : Value := .int .i64 (n : Int)
def oc (x : Zn) : List Value := [iv x.st, iv x.p, iv x.r]
def ocs (l : List Zn) : List Value := l.flatMap oc
theorem ocs_len (l : List Zn) : (ocs l).length = l.length * 3 := by
 induction l with
 | nil => rfl
 | cons x l ih => unfold ocs at *; rw [List.flatMap_cons, List.length_append, ih]; simp [oc]; omega
theorem oc_one (x : Zn) : ∀ v ∈ oc x, v.oneCell' = true := by simp [oc, Value.oneCell']
theorem ocs_one (l : List Zn) : ∀ v ∈ ocs l, v.oneCell' = true := by
 intro v hv
 obtain ⟨x, _, hx⟩ := List.mem_flatMap.1 hv
 exact oc_one x v hx
def cl (c : Cf) : List Value := [iv c.n, iv c.sz, iv c.cap, iv c.mo, iv c.ma]
def zcl (z : Zs) (A : Option Addr) (cc : Nat) : List Value := cl z.c ++ [.slice A z.l.length cc, iv z.w]
abbrev pZ (g : Nat) (z : Zs) (A : Option Addr) (cc : Nat) : At := .blk g 71 (zcl z A cc)
abbrev pL (r : Option Nat) (A : Option Addr) (cc : Nat) (z : Zs) : At := .own 3 r A z.l.length cc (ocs z.l)
theorem zcl_one (z : Zs) (A : Option Addr) (cc : Nat) : ∀ v ∈ zcl z A cc, v.oneCell' = true := by simp [zcl, cl, Value.oneCell']
def stl (k : Nat) : List Value := [.int .u8 (if 184 ≤ k then 1 else 0), .int .u8 (k : Int), .bool false, .bool true]
def chS (k : Nat) : List PanicEntry := [{ v := .iface 32 (.agg (stl k).toArray), recovered := false }]
theorem zSt : (Try.prog.info? 32).bind (fun i => i.zero.map (·.cells.toList)) = some [.int .u8 0, .int .u8 0, .bool false, .bool false] := by kernel_rfl
theorem zOne : (Try.prog.info? 80).bind (fun i => i.zero.map (·.cells.toList)) = some (oc { st := 0 }) := by kernel_rfl
theorem zZs : (Try.prog.info? 71).bind (fun i => i.zero.map (·.cells.toList)) = some (zcl { c := ⟨0, 0, 0, 0, 0⟩, l := [] } none 0) := by kernel_rfl
theorem run_results_row {P : Program} (hs : St w0 X L w) {fn : Func} {tmps : Array Value} {p : Tmp} {ty : TypeId} {g : Nat} {xs : List Value} (hr : fn.results = #[.cell p ty]) (hp : tmps.getD p undef = .pointer (some ⟨g, 0, none⟩)) (hR : Reads L (some ⟨g, 0, none⟩) xs) (hd : (P.underlying ty).map TypeDesc.isRow = some true) (hi : (P.info? ty).map (·.size) = some xs.length) : (results fn tmps).run P w = .ok (.agg xs.toArray) w := by
 have h2 := Se.run_loadVar_reads hs hR hd hi
 have hp' : tmps[p]?.getD undef = .pointer (some ⟨g, 0, none⟩) := by simpa using hp
 simp [results, hr, hp', asAddr, h2]
theorem status_st (hs : St w0 X L w) (k : Nat) (hk : k ≤ 255) : Calls Try.prog 70 #[.int .u8 (k : Int)] w fun e w' => e = .returned (.agg (stl k).toArray) ∧ St w0 X L w' := by
 by_cases h : 184 ≤ k
 ·have h1 : decide (184 ≤ (k : Int)) = true := by simp; omega
  have hS : Hid (stl k = [.int .u8 1, .int .u8 (k : Int), .bool false, .bool true]) := Lib.hid (by unfold stl; rw [if_pos h])
  have h2 : (184 : Int) ≤ (k : Int) := by omega
  clear h
  go_enter Try.func70, Try.ntmps70
  go_wp2_with (first | ((with_reducible refine Se.isL (o := ⟨some 2, _, _, _, _, _⟩) ?_); (refine Se.toL rfl (Se.al (o := ⟨some 2, _, _, _, _, _⟩) hs rfl (zSt) ?_); clear hs; rintro w g2 - hs)) | ((with_reducible refine Se.isL (o := ⟨some 3, _, _, _, _, _⟩) ?_); (refine Se.toL rfl (Se.al (o := ⟨some 3, _, _, _, _, _⟩) hs rfl (zSt) ?_); clear hs; rintro w g3 - hs)) | ((with_reducible refine Se.isL (o := ⟨none, _, _, _, _, _⟩) ?_); (refine Se.toL rfl (Se.sow 0 hs rfl rfl rfl rfl ((by simp [Value.oneCell'])) ((by kernel_rfl)) (rfl) ?_); clear hs; intro w hs; try simp only [List.cons_append, List.nil_append, List.set_cons_zero] at hs)) | ((with_reducible refine Se.isL (o := ⟨none, _, _, _, _, _⟩) ?_); (refine Se.toL rfl (Se.sow 1 hs rfl rfl rfl rfl ((by simp [Value.oneCell'])) ((by kernel_rfl)) (rfl) ?_); clear hs; intro w hs; try simp only [List.cons_append, List.nil_append, List.set_cons_zero, List.set_cons_succ] at hs)) | ((with_reducible refine Se.isL (o := ⟨none, _, _, _, _, _⟩) ?_); ((first | refine Se.toL rfl (Se.so 0 (v := .int _ _) hs rfl rfl rfl rfl rfl (by kernel_rfl) (by simp) ?_) | refine Se.toL rfl (Se.so 0 (v := .bool _) hs rfl rfl rfl rfl rfl (by kernel_rfl) (by simp) ?_) | refine Se.toL rfl (Se.so 0 (v := .slice _ _ _) hs rfl rfl rfl rfl rfl (by kernel_rfl) (by simp) ?_) | refine Se.toL rfl (Se.so 0 (v := .pointer _) hs rfl rfl rfl rfl rfl (by kernel_rfl) (by simp) ?_) | refine Se.toL rfl (Se.so 0 (v := .string _) hs rfl rfl rfl rfl rfl (by kernel_rfl) (by simp) ?_) | refine Se.toL rfl (Se.so 0 (v := .map _) hs rfl rfl rfl rfl rfl (by kernel_rfl) (by simp) ?_) | refine Se.toL rfl (Se.so 0 (v := .func _ _ _) hs rfl rfl rfl rfl rfl (by kernel_rfl) (by simp) ?_) | refine Se.toL rfl (Se.so 0 (v := .nilFunc) hs rfl rfl rfl rfl rfl (by kernel_rfl) (by simp) ?_)); clear hs; intro w hs; try simp only [List.cons_append, List.nil_append, List.set_cons_zero] at hs)) | ((with_reducible refine Se.isL (o := ⟨some 9, _, _, _, _, _⟩) ?_); (refine Se.toL rfl (Se.ldw (o := ⟨some 9, _, _, _, _, _⟩) hs rfl rfl ((Reads.blk 0 rfl)) ((by kernel_rfl)) (by kernel_rfl) ?_))))
  refine bodyPost_ret (v := .agg (stl k).toArray) ?_ rfl ?_
  ·rw [hS.out]
   exact run_results_row hs rfl rfl (Reads.blk 1 rfl) (by kernel_rfl) (by kernel_rfl)
  ·exact ⟨rfl, hs.drop.drop⟩
 ·have h1 : decide (184 ≤ (k : Int)) = false := by simp; omega
  have hS : Hid (stl k = [.int .u8 0, .int .u8 (k : Int), .bool false, .bool true]) := Lib.hid (by unfold stl; rw [if_neg h])
  have h2 : ¬ (184 : Int) ≤ (k : Int) := by omega
  clear h
  go_enter Try.func70, Try.ntmps70
  go_wp2_with (first | ((with_reducible refine Se.isL (o := ⟨some 2, _, _, _, _, _⟩) ?_); (refine Se.toL rfl (Se.al (o := ⟨some 2, _, _, _, _, _⟩) hs rfl (zSt) ?_); clear hs; rintro w g2 - hs)) | ((with_reducible refine Se.isL (o := ⟨some 3, _, _, _, _, _⟩) ?_); (refine Se.toL rfl (Se.al (o := ⟨some 3, _, _, _, _, _⟩) hs rfl (zSt) ?_); clear hs; rintro w g3 - hs)) | ((with_reducible refine Se.isL (o := ⟨none, _, _, _, _, _⟩) ?_); (refine Se.toL rfl (Se.sow 0 hs rfl rfl rfl rfl ((by simp [Value.oneCell'])) ((by kernel_rfl)) (rfl) ?_); clear hs; intro w hs; try simp only [List.cons_append, List.nil_append, List.set_cons_zero] at hs)) | ((with_reducible refine Se.isL (o := ⟨none, _, _, _, _, _⟩) ?_); (refine Se.toL rfl (Se.sow 1 hs rfl rfl rfl rfl ((by simp [Value.oneCell'])) ((by kernel_rfl)) (rfl) ?_); clear hs; intro w hs; try simp only [List.cons_append, List.nil_append, List.set_cons_zero, List.set_cons_succ] at hs)) | ((with_reducible refine Se.isL (o := ⟨some 9, _, _, _, _, _⟩) ?_); (refine Se.toL rfl (Se.ldw (o := ⟨some 9, _, _, _, _, _⟩) hs rfl rfl ((Reads.blk 0 rfl)) ((by kernel_rfl)) (by kernel_rfl) ?_))))
  refine bodyPost_ret (v := .agg (stl k).toArray) ?_ rfl ?_
  ·rw [hS.out]
   exact run_results_row hs rfl rfl (Reads.blk 1 rfl) (by kernel_rfl) (by kernel_rfl)
  ·exact ⟨rfl, hs.drop.drop⟩
theorem must_t (hs : St w0 X L w) (k : Nat) : Calls Try.prog 36 #[.bool true, .int .u8 (k : Int)] w fun e w' => e = .returned (.tuple #[]) ∧ St w0 X L w' := by
 go_enter Try.func36, Try.ntmps36
 go_wp2_with fail
 go_end0
 exact ⟨rfl, hs⟩
theorem must_f (hs : St w0 X L w) (k : Nat) (hk : k ≤ 255) : Calls Try.prog 36 #[.bool false, .int .u8 (k : Int)] w fun e w' => e = .panicked (chS k) ∧ St w0 X L w' := by
 have HK := Lib.hid hk
 clear hk
 go_enter Try.func36, Try.ntmps36
 go_wp2_with (first | (go_at_call 70; refine Calls.mono (status_st hs k HK.out) ?_; clear hs; rintro e w ⟨rfl, hs⟩))
 exact ⟨rfl, rfl, hs⟩
theorem open_st (hs : St w0 X L w) (x : Zn) : Calls Try.prog 63 #[.agg (oc x).toArray] w fun e w' => e = .returned (.bool (opn x.st)) ∧ St w0 X L w' := by
 obtain ⟨O, hO⟩ : ∃ O, O = oc x := ⟨_, rfl⟩
 obtain ⟨b, hb⟩ : ∃ b, b = opn x.st := ⟨_, rfl⟩
 obtain ⟨s, hs0⟩ : ∃ s, s = x.st := ⟨_, rfl⟩
 have O0 := Lib.hid (show O[0]? = some (iv s) by rw [hO, hs0]; rfl)
 have HB : Hid (b = (s == 2 || s == 3)) := Lib.hid (by rw [hb, hs0]; rfl)
 rw [← hO, ← hb]
 clear hO hb hs0
 by_cases h2 : s = 2
 ·subst h2
  have HB2 := Lib.hid (show b = true by rw [HB.out]; rfl)
  go_enter Try.func63, Try.ntmps63
  go_wp2_with (first | ((with_reducible refine Se.isL (o := ⟨some 4, _, _, _, _, _⟩) ?_); (refine Se.toL rfl (Se.ld (o := ⟨some 4, _, _, _, _, _⟩) hs rfl rfl (Cell.blk 0 rfl O0.out) (by kernel_rfl) ?_))) | ((first | with_reducible refine Se.ab hs ?_ | with_reducible refine Se.abc hs ?_); clear hs; (first | (generalize w.heap.size = g1; intro w hs))))
  go_ret
  exact ⟨by rw [HB2.out]; rfl, hs.drop⟩
 have e2 : ((s : Int) == 2) = false := by simp; omega
 by_cases h3 : s = 3
 ·subst h3
  have HB2 := Lib.hid (show b = true by rw [HB.out]; rfl)
  clear h2 e2
  go_enter Try.func63, Try.ntmps63
  go_wp2_with (first | ((with_reducible refine Se.isL (o := ⟨some 4, _, _, _, _, _⟩) ?_); (refine Se.toL rfl (Se.ld (o := ⟨some 4, _, _, _, _, _⟩) hs rfl rfl (Cell.blk 0 rfl O0.out) (by kernel_rfl) ?_))) | ((with_reducible refine Se.isL (o := ⟨some 8, _, _, _, _, _⟩) ?_); (refine Se.toL rfl (Se.ld (o := ⟨some 8, _, _, _, _, _⟩) hs rfl rfl (Cell.blk 0 rfl O0.out) (by kernel_rfl) ?_))) | ((first | with_reducible refine Se.ab hs ?_ | with_reducible refine Se.abc hs ?_); clear hs; (first | (generalize w.heap.size = g1; intro w hs))))
  go_ret
  exact ⟨by rw [HB2.out]; rfl, hs.drop⟩
 have e3 : ((s : Int) == 3) = false := by simp; omega
 have HB2 := Lib.hid (show b = false by rw [HB.out]; simp [h2, h3])
 clear h2 h3
 go_enter Try.func63, Try.ntmps63
 go_wp2_with (first | ((with_reducible refine Se.isL (o := ⟨some 4, _, _, _, _, _⟩) ?_); (refine Se.toL rfl (Se.ld (o := ⟨some 4, _, _, _, _, _⟩) hs rfl rfl (Cell.blk 0 rfl O0.out) (by kernel_rfl) ?_))) | ((with_reducible refine Se.isL (o := ⟨some 8, _, _, _, _, _⟩) ?_); (refine Se.toL rfl (Se.ld (o := ⟨some 8, _, _, _, _, _⟩) hs rfl rfl (Cell.blk 0 rfl O0.out) (by kernel_rfl) ?_))) | ((first | with_reducible refine Se.ab hs ?_ | with_reducible refine Se.abc hs ?_); clear hs; (first | (generalize w.heap.size = g1; intro w hs))))
 go_ret
 exact ⟨by rw [HB2.out]; rfl, hs.drop⟩
theorem active_st (hs : St w0 X L w) (x : Zn) : Calls Try.prog 66 #[.agg (oc x).toArray] w fun e w' => e = .returned (.bool (atv x.st)) ∧ St w0 X L w' := by
 obtain ⟨O, hO⟩ : ∃ O, O = oc x := ⟨_, rfl⟩
 obtain ⟨b, hb⟩ : ∃ b, b = atv x.st := ⟨_, rfl⟩
 obtain ⟨s, hs0⟩ : ∃ s, s = x.st := ⟨_, rfl⟩
 obtain ⟨o, ho⟩ : ∃ o, o = opn x.st := ⟨_, rfl⟩
 have O0 := Lib.hid (show O[0]? = some (iv s) by rw [hO, hs0]; rfl)
 have OL := Lib.hid (show O.length = 3 by rw [hO]; rfl)
 have HB : Hid (b = (o || s == 4)) := Lib.hid (by rw [hb, hs0, ho]; rfl)
 have CO : Hid (∀ (L : List At) (w : World), St w0 X L w → Calls Try.prog 63 #[.agg O.toArray] w fun e w' => e = .returned (.bool o) ∧ St w0 X L w') := Lib.hid (fun L w hs => by rw [hO, ho]; exact open_st hs x)
 rw [← hO, ← hb]
 clear hO hb hs0 ho
 cases o with
 | true =>
  have HB2 := Lib.hid (show b = true by rw [HB.out]; rfl)
  go_enter Try.func66, Try.ntmps66
  go_wp2_with (first | ((with_reducible refine Se.isL (o := ⟨some 3, _, _, _, _, _⟩) ?_); (refine Se.toL rfl (Se.ldw (o := ⟨some 3, _, _, _, _, _⟩) hs rfl rfl ((Reads.blk 0 rfl)) ((by rw [OL.out]; kernel_rfl)) (by kernel_rfl) ?_))) | ((first | with_reducible refine Se.ab hs ?_ | with_reducible refine Se.abc hs ?_); clear hs; (first | (generalize w.heap.size = g1; intro w hs))) | (go_at_call 63; refine Calls.mono (CO.out _ _ hs) ?_; clear hs; rintro e w ⟨rfl, hs⟩))
  go_ret
  exact ⟨by rw [HB2.out]; rfl, hs.drop⟩
 | false =>
  by_cases h4 : s = 4
  ·subst h4
   have HB2 := Lib.hid (show b = true by rw [HB.out]; rfl)
   go_enter Try.func66, Try.ntmps66
   go_wp2_with (first | ((with_reducible refine Se.isL (o := ⟨some 3, _, _, _, _, _⟩) ?_); (refine Se.toL rfl (Se.ldw (o := ⟨some 3, _, _, _, _, _⟩) hs rfl rfl ((Reads.blk 0 rfl)) ((by rw [OL.out]; kernel_rfl)) (by kernel_rfl) ?_))) | ((with_reducible refine Se.isL (o := ⟨some 7, _, _, _, _, _⟩) ?_); (refine Se.toL rfl (Se.ld (o := ⟨some 7, _, _, _, _, _⟩) hs rfl rfl (Cell.blk 0 rfl O0.out) (by kernel_rfl) ?_))) | ((first | with_reducible refine Se.ab hs ?_ | with_reducible refine Se.abc hs ?_); clear hs; (first | (generalize w.heap.size = g1; intro w hs))) | (go_at_call 63; refine Calls.mono (CO.out _ _ hs) ?_; clear hs; rintro e w ⟨rfl, hs⟩))
   go_ret
   exact ⟨by rw [HB2.out]; rfl, hs.drop⟩
  have e4 : ((s : Int) == 4) = false := by simp; omega
  have HB2 := Lib.hid (show b = false by rw [HB.out]; simp [h4])
  clear h4
  go_enter Try.func66, Try.ntmps66
  go_wp2_with (first | ((with_reducible refine Se.isL (o := ⟨some 3, _, _, _, _, _⟩) ?_); (refine Se.toL rfl (Se.ldw (o := ⟨some 3, _, _, _, _, _⟩) hs rfl rfl ((Reads.blk 0 rfl)) ((by rw [OL.out]; kernel_rfl)) (by kernel_rfl) ?_))) | ((with_reducible refine Se.isL (o := ⟨some 7, _, _, _, _, _⟩) ?_); (refine Se.toL rfl (Se.ld (o := ⟨some 7, _, _, _, _, _⟩) hs rfl rfl (Cell.blk 0 rfl O0.out) (by kernel_rfl) ?_))) | ((first | with_reducible refine Se.ab hs ?_ | with_reducible refine Se.abc hs ?_); clear hs; (first | (generalize w.heap.size = g1; intro w hs))) | (go_at_call 63; refine Calls.mono (CO.out _ _ hs) ?_; clear hs; rintro e w ⟨rfl, hs⟩))
  go_ret
  exact ⟨by rw [HB2.out]; rfl, hs.drop⟩
theorem closed_st (hs : St w0 X L w) (x : Zn) : Calls Try.prog 64 #[.agg (oc x).toArray] w fun e w' => e = .returned (.agg (oc (closeZ x)).toArray) ∧ St w0 X L w' := by
 obtain ⟨s, p, r⟩ := x
 have HO : Hid (oc (closeZ ⟨s, p, r⟩) = [iv (if p = 0 then 1 else 4), iv p, iv r]) := Lib.hid rfl
 by_cases hp : p = 0
 ·subst hp
  rw [show oc ⟨s, 0, r⟩ = [iv s, .int .i64 0, iv r] from rfl, HO.out, if_pos rfl]
  clear HO
  go_enter Try.func64, Try.ntmps64
  go_wp2_with (first | ((with_reducible refine Se.isL (o := ⟨some 2, _, _, _, _, _⟩) ?_); (refine Se.toL rfl (Se.al (o := ⟨some 2, _, _, _, _, _⟩) hs rfl (zOne) ?_); clear hs; rintro w g2 - hs)) | ((with_reducible refine Se.isL (o := ⟨none, _, _, _, _, _⟩) ?_); ((first | refine Se.toL rfl (Se.so 1 (v := .int _ _) hs rfl rfl rfl rfl rfl (by kernel_rfl) (by simp) ?_) | refine Se.toL rfl (Se.so 1 (v := .bool _) hs rfl rfl rfl rfl rfl (by kernel_rfl) (by simp) ?_) | refine Se.toL rfl (Se.so 1 (v := .slice _ _ _) hs rfl rfl rfl rfl rfl (by kernel_rfl) (by simp) ?_) | refine Se.toL rfl (Se.so 1 (v := .pointer _) hs rfl rfl rfl rfl rfl (by kernel_rfl) (by simp) ?_) | refine Se.toL rfl (Se.so 1 (v := .string _) hs rfl rfl rfl rfl rfl (by kernel_rfl) (by simp) ?_) | refine Se.toL rfl (Se.so 1 (v := .map _) hs rfl rfl rfl rfl rfl (by kernel_rfl) (by simp) ?_) | refine Se.toL rfl (Se.so 1 (v := .func _ _ _) hs rfl rfl rfl rfl rfl (by kernel_rfl) (by simp) ?_) | refine Se.toL rfl (Se.so 1 (v := .nilFunc) hs rfl rfl rfl rfl rfl (by kernel_rfl) (by simp) ?_)); clear hs; intro w hs; try simp only [List.cons_append, List.nil_append, List.set_cons_zero, List.set_cons_succ] at hs)) | ((with_reducible refine Se.isL (o := ⟨some 5, _, _, _, _, _⟩) ?_); (refine Se.toL rfl (Se.ld (o := ⟨some 5, _, _, _, _, _⟩) hs rfl rfl (Cell.blk 1 rfl rfl) (by kernel_rfl) ?_))) | ((with_reducible refine Se.isL (o := ⟨some 8, _, _, _, _, _⟩) ?_); (refine Se.toL rfl (Se.ldw (o := ⟨some 8, _, _, _, _, _⟩) hs rfl rfl ((Reads.blk 1 rfl)) ((by kernel_rfl)) (by kernel_rfl) ?_))) | ((with_reducible refine Se.isL (o := ⟨none, Op.store 80 _ _, _, _, _, _⟩) ?_); (refine Se.toL rfl (Se.sow 0 hs rfl rfl rfl rfl ((by simp [Value.oneCell'])) ((by kernel_rfl)) (rfl) ?_); clear hs; intro w hs; try simp only [List.cons_append, List.nil_append, List.set_cons_zero] at hs)) | ((first | with_reducible refine Se.ab hs ?_ | with_reducible refine Se.abc hs ?_); clear hs; (first | (generalize w.heap.size = g1; intro w hs))))
  refine bodyPost_ret (v := .agg #[iv 1, .int .i64 0, iv r]) ?_ rfl ?_
  ·exact run_results_row hs rfl rfl (Reads.blk 0 rfl) (by kernel_rfl) (by kernel_rfl)
  ·exact ⟨rfl, hs.drop.drop⟩
 ·have e1 : ((p : Int) == 0) = false := by simp; omega
  rw [show oc ⟨s, p, r⟩ = [iv s, iv p, iv r] from rfl, HO.out, if_neg hp]
  clear HO hp
  go_enter Try.func64, Try.ntmps64
  go_wp2_with (first | ((with_reducible refine Se.isL (o := ⟨some 2, _, _, _, _, _⟩) ?_); (refine Se.toL rfl (Se.al (o := ⟨some 2, _, _, _, _, _⟩) hs rfl (zOne) ?_); clear hs; rintro w g2 - hs)) | ((with_reducible refine Se.isL (o := ⟨none, _, _, _, _, _⟩) ?_); ((first | refine Se.toL rfl (Se.so 1 (v := .int _ _) hs rfl rfl rfl rfl rfl (by kernel_rfl) (by simp) ?_) | refine Se.toL rfl (Se.so 1 (v := .bool _) hs rfl rfl rfl rfl rfl (by kernel_rfl) (by simp) ?_) | refine Se.toL rfl (Se.so 1 (v := .slice _ _ _) hs rfl rfl rfl rfl rfl (by kernel_rfl) (by simp) ?_) | refine Se.toL rfl (Se.so 1 (v := .pointer _) hs rfl rfl rfl rfl rfl (by kernel_rfl) (by simp) ?_) | refine Se.toL rfl (Se.so 1 (v := .string _) hs rfl rfl rfl rfl rfl (by kernel_rfl) (by simp) ?_) | refine Se.toL rfl (Se.so 1 (v := .map _) hs rfl rfl rfl rfl rfl (by kernel_rfl) (by simp) ?_) | refine Se.toL rfl (Se.so 1 (v := .func _ _ _) hs rfl rfl rfl rfl rfl (by kernel_rfl) (by simp) ?_) | refine Se.toL rfl (Se.so 1 (v := .nilFunc) hs rfl rfl rfl rfl rfl (by kernel_rfl) (by simp) ?_)); clear hs; intro w hs; try simp only [List.cons_append, List.nil_append, List.set_cons_zero, List.set_cons_succ] at hs)) | ((with_reducible refine Se.isL (o := ⟨some 5, _, _, _, _, _⟩) ?_); (refine Se.toL rfl (Se.ld (o := ⟨some 5, _, _, _, _, _⟩) hs rfl rfl (Cell.blk 1 rfl rfl) (by kernel_rfl) ?_))) | ((with_reducible refine Se.isL (o := ⟨some 8, _, _, _, _, _⟩) ?_); (refine Se.toL rfl (Se.ldw (o := ⟨some 8, _, _, _, _, _⟩) hs rfl rfl ((Reads.blk 1 rfl)) ((by kernel_rfl)) (by kernel_rfl) ?_))) | ((with_reducible refine Se.isL (o := ⟨none, Op.store 80 _ _, _, _, _, _⟩) ?_); (refine Se.toL rfl (Se.sow 0 hs rfl rfl rfl rfl ((by simp [Value.oneCell'])) ((by kernel_rfl)) (rfl) ?_); clear hs; intro w hs; try simp only [List.cons_append, List.nil_append, List.set_cons_zero] at hs)) | ((first | with_reducible refine Se.ab hs ?_ | with_reducible refine Se.abc hs ?_); clear hs; (first | (generalize w.heap.size = g1; intro w hs))))
  refine bodyPost_ret (v := .agg #[iv 4, iv p, iv r]) ?_ rfl ?_
  ·exact run_results_row hs rfl rfl (Reads.blk 0 rfl) (by kernel_rfl) (by kernel_rfl)
  ·exact ⟨rfl, hs.drop.drop⟩
theorem eql_nil (A : Option Addr) (n c : Nat) (w : World) : (binOp .eql 69 (.slice A n c) (.slice none 0 0)).run Try.prog w = .ok (.bool A.isNone) w := by
 simp [binOp, run_equal_slice_nil w 69 _ A n c Try.underlying69]
attribute [local go_sem] eql_nil
theorem none_st {g cc : Nat} {z : Zs} {A : Option Addr} (hs : St w0 X (pZ g z A cc :: L) w) (hA : A ≠ none) : Calls Try.prog 42 #[.pointer (some ⟨g, 0, none⟩)] w fun e w' => e = .returned (.bool false) ∧ St w0 X (pZ g z A cc :: L) w' := by
 obtain ⟨a, rfl⟩ : ∃ a, A = some a := by cases A with | none => exact absurd rfl hA | some a => exact ⟨a, rfl⟩
 obtain ⟨RL, hRL⟩ : ∃ RL, RL = zcl z (some a) cc := ⟨_, rfl⟩
 obtain ⟨n, hn⟩ : ∃ n, n = z.l.length := ⟨_, rfl⟩
 have R5 := Lib.hid (show RL[5]? = some (.slice (some a) n cc) by rw [hRL, hn]; rfl)
 simp only [pZ] at hs ⊢
 rw [← hRL] at hs ⊢
 clear hRL hn hA
 go_enter Try.func42, Try.ntmps42
 go_wp2_with (first | ((with_reducible refine Se.isL (o := ⟨some 9, _, _, _, _, _⟩) ?_); (refine Se.toL rfl (Se.ld (o := ⟨some 9, _, _, _, _, _⟩) hs rfl rfl (Cell.blk 0 rfl R5.out) (by kernel_rfl) ?_))))
 go_ret
 exact ⟨rfl, hs⟩
end Zo
end Go.Proofs.Ythpgkkfahiglnaa


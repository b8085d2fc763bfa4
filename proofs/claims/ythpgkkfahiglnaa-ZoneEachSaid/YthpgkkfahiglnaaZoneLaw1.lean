/- Layer 28's laws: num, code, appends, in. No condition but Go's own limits. -/
import Derived.Test.YthpgkkfahiglnaaZoneNil
import Derived.Laws.StructEq
set_option maxRecDepth 100000
set_option maxHeartbeats 4000000
set_option linter.unusedSimpArgs false
set_option linter.unusedVariables false
namespace Go.Proofs.Ythpgkkfahiglnaa
open Go Go.RowKit
namespace Zo
open Se (St At Reads Cell)
open Li (Rd Blk Fr)
variable {w0 w : World} {X : List Nat} {L : List At} {P : Option Addr}
attribute [local irreducible] Calls
theorem eqS (a b : Int) (c d : Bool) (w : World) : (binOp .eql 32 (.agg #[.int .u8 a, .int .u8 b, .bool c, .bool d]) (.agg #[.int .u8 a, .int .u8 b, .bool c, .bool d])).run Try.prog w = .ok (.bool true) w := by
 rw [run_eql_struct, run_equalIn_struct w 9999 32 _ _ (by kernel_rfl) (by kernel_rfl)]
 simp only [Program.fieldsOf, Try.underlying32]
 simp [go_sem, Try.underlying5, Try.underlying4]
theorem eqC (a b c d e : Int) (w : World) : (binOp .eql 24 (.agg #[.int .i64 a, .int .i64 b, .int .i64 c, .int .i64 d, .int .i64 e]) (.agg #[.int .i64 a, .int .i64 b, .int .i64 c, .int .i64 d, .int .i64 e])).run Try.prog w = .ok (.bool true) w := by
 rw [run_eql_struct, run_equalIn_struct w 9999 24 _ _ (by kernel_rfl) (by kernel_rfl)]
 simp only [Program.fieldsOf, Try.underlying24]
 simp [go_sem, Try.underlying3]
theorem neZ (a b c d : Int) (w : World) : (binOp .neq 37 (.agg #[.int .i64 a, .int .i64 b, .int .i64 c, .int .i64 d]) (.agg #[.int .i64 a, .int .i64 b, .int .i64 c, .int .i64 d])).run Try.prog w = .ok (.bool false) w := by
 rw [run_neq_struct, run_equalIn_struct w 9999 37 _ _ (by kernel_rfl) (by kernel_rfl)]
 simp only [Program.fieldsOf, Try.underlying37]
 simp [go_sem, Try.underlying3, Try.underlying35]
theorem num_v (hs : St w0 X L w) (x : Int) : Calls Try.prog 10 #[.int .i64 x] w fun e w' => e = .returned (.int .i64 x) ∧ St w0 X L w' := by
 go_enter Try.func10, Try.ntmps10
 go_wp2_with fail
 go_ret
 exact ⟨rfl, hs⟩
theorem code_st (hs : St w0 X L w) (k : Nat) (hk : k ≤ 255) : Calls Try.prog 11 #[.agg (stv k).toArray, iv k] w fun e w' => e = .returned (.bool true) ∧ St w0 X L w' := by
 obtain ⟨S, hS⟩ : ∃ S, S = stv k := ⟨_, rfl⟩
 have SL := Lib.hid (show S.length = 4 by rw [hS]; exact stv_len k)
 have SO := Lib.hid (show ∀ v ∈ S, v.oneCell' = true by rw [hS]; exact stv_one k)
 have HE : ∀ w, (binOp .eql 32 (.agg S.toArray) (.agg S.toArray)).run Try.prog w = .ok (.bool true) w := fun w => by
  rw [hS]
  unfold stv
  split
  ·exact eqS 0 0 false false w
  ·exact eqS _ _ _ _ w
 have HS := Lib.hid hS
 rw [← hS]
 clear hS
 by_cases h0 : k = 0
 ·subst h0
  have BP : Hid (∀ w : World, (Instr.build 32 #[]).run Try.prog w = .ok (.agg S.toArray) w) := Lib.hid (fun w => by rw [HS.out]; kernel_rfl)
  go_enter Try.func11, Try.ntmps11
  go_wp2_with (first | ((with_reducible refine Se.isL (o := ⟨some 8, _, _, _, _, _⟩) ?_); (refine Se.toL rfl (Se.ldw (o := ⟨some 8, _, _, _, _, _⟩) hs rfl rfl ((Reads.blk 0 rfl)) ((by rw [SL.out]; kernel_rfl)) (by kernel_rfl) ?_))) | ((with_reducible refine Se.isL (o := ⟨some 9, _, _, _, _, _⟩) ?_); (refine Se.toL rfl (Se.bd (o := ⟨some 9, _, _, _, _, _⟩) rfl rfl (BP.out _) ?_))) | ((first | with_reducible refine Se.ab hs ?_ | with_reducible refine Se.abc hs ?_); clear hs; (first | (generalize w.heap.size = g2; intro w hs))))
  go_ret
  exact ⟨rfl, hs.drop⟩
 have d0 : ((k : Int) == 0) = false := by simp; omega
 have w1 : IntKind.u8.wrap (k : Int) = (k : Int) := by
  show ((k : Int) % 256) = k
  omega
 obtain ⟨S0, hS0⟩ : ∃ S0, S0 = [Value.int .u8 0, .int .u8 (k : Int), .bool false, .bool true] := ⟨_, rfl⟩
 have SL0 := Lib.hid (show S0.length = 4 by rw [hS0]; rfl)
 have SO0 := Lib.hid (show ∀ v ∈ S0, v.oneCell' = true by rw [hS0]; simp [Value.oneCell'])
 have BP : Hid (∀ w : World, (Instr.build 32 #[(1, .int .u8 (k : Int)), (3, .bool true)]).run Try.prog w = .ok (.agg S0.toArray) w) := Lib.hid (fun w => by rw [hS0]; kernel_rfl)
 have ZL := Lib.hid (show st0.length = 4 from rfl)
 have ZS : Hid ((Try.prog.info? 32).bind (fun i => i.zero.map (·.cells.toList)) = some st0) := Lib.hid zSt
 by_cases h1 : 184 ≤ k
 ·have d1 : decide (184 ≤ (k : Int)) = true := by simp; omega
  have HS2 := Lib.hid (show S0.set 0 (.int .u8 1) = S by rw [hS0, HS.out]; unfold stv stl; rw [if_neg h0, if_pos h1]; rfl)
  clear h0 h1 hS0
  go_enter Try.func11, Try.ntmps11
  go_wp2_with (first | ((with_reducible refine Se.isL (o := ⟨some 13, _, _, _, _, _⟩) ?_); (refine Se.toL rfl (Se.bd (o := ⟨some 13, _, _, _, _, _⟩) rfl rfl (BP.out _) ?_))) | ((with_reducible refine Se.isL (o := ⟨some 5, _, _, _, _, _⟩) ?_); (refine Se.toL rfl (Se.al (o := ⟨some 5, _, _, _, _, _⟩) hs rfl (ZS.out) ?_); clear hs; rintro w g5 - hs)) | ((with_reducible refine Se.isL (o := ⟨none, _, _, _, _, _⟩) ?_); (refine Se.toL rfl (Se.sow 0 hs rfl rfl rfl rfl (SO0.out) ((by rw [SL0.out]; kernel_rfl)) ((by rw [SL0.out, ZL.out])) ?_); clear hs; intro w hs; try simp only [List.cons_append, List.nil_append, List.set_cons_zero] at hs)) | ((with_reducible refine Se.isL (o := ⟨none, _, _, _, _, _⟩) ?_); ((first | refine Se.toL rfl (Se.soq 0 (v := .int _ _) hs rfl rfl rfl rfl rfl (by kernel_rfl) ((by rw [SL0.out]; decide)) (HS2.out) ?_) | refine Se.toL rfl (Se.soq 0 (v := .bool _) hs rfl rfl rfl rfl rfl (by kernel_rfl) ((by rw [SL0.out]; decide)) (HS2.out) ?_) | refine Se.toL rfl (Se.soq 0 (v := .slice _ _ _) hs rfl rfl rfl rfl rfl (by kernel_rfl) ((by rw [SL0.out]; decide)) (HS2.out) ?_) | refine Se.toL rfl (Se.soq 0 (v := .pointer _) hs rfl rfl rfl rfl rfl (by kernel_rfl) ((by rw [SL0.out]; decide)) (HS2.out) ?_) | refine Se.toL rfl (Se.soq 0 (v := .string _) hs rfl rfl rfl rfl rfl (by kernel_rfl) ((by rw [SL0.out]; decide)) (HS2.out) ?_) | refine Se.toL rfl (Se.soq 0 (v := .map _) hs rfl rfl rfl rfl rfl (by kernel_rfl) ((by rw [SL0.out]; decide)) (HS2.out) ?_) | refine Se.toL rfl (Se.soq 0 (v := .func _ _ _) hs rfl rfl rfl rfl rfl (by kernel_rfl) ((by rw [SL0.out]; decide)) (HS2.out) ?_) | refine Se.toL rfl (Se.soq 0 (v := .nilFunc) hs rfl rfl rfl rfl rfl (by kernel_rfl) ((by rw [SL0.out]; decide)) (HS2.out) ?_)); clear hs; intro w hs; try simp only [List.cons_append, List.nil_append, List.set_cons_zero] at hs)) | ((with_reducible refine Se.isL (o := ⟨some 17, _, _, _, _, _⟩) ?_); (refine Se.toL rfl (Se.ldw (o := ⟨some 17, _, _, _, _, _⟩) hs rfl rfl ((Reads.blk 1 rfl)) ((by rw [SL.out]; kernel_rfl)) (by kernel_rfl) ?_))) | ((with_reducible refine Se.isL (o := ⟨some 18, _, _, _, _, _⟩) ?_); (refine Se.toL rfl (Se.ldw (o := ⟨some 18, _, _, _, _, _⟩) hs rfl rfl ((Reads.blk 0 rfl)) ((by rw [SL.out]; kernel_rfl)) (by kernel_rfl) ?_))) | ((first | with_reducible refine Se.ab hs ?_ | with_reducible refine Se.abc hs ?_); clear hs; (first | (generalize w.heap.size = g2; intro w hs))))
  go_ret
  exact ⟨rfl, hs.drop.drop⟩
 ·have d1 : decide (184 ≤ (k : Int)) = false := by simp; omega
  have HS2 := show S0 = S by rw [hS0, HS.out]; unfold stv stl; rw [if_neg h0, if_neg h1]
  rw [HS2] at BP SL0 SO0
  clear h0 h1 hS0 HS2
  go_enter Try.func11, Try.ntmps11
  go_wp2_with (first | ((with_reducible refine Se.isL (o := ⟨some 13, _, _, _, _, _⟩) ?_); (refine Se.toL rfl (Se.bd (o := ⟨some 13, _, _, _, _, _⟩) rfl rfl (BP.out _) ?_))) | ((with_reducible refine Se.isL (o := ⟨some 5, _, _, _, _, _⟩) ?_); (refine Se.toL rfl (Se.al (o := ⟨some 5, _, _, _, _, _⟩) hs rfl (ZS.out) ?_); clear hs; rintro w g5 - hs)) | ((with_reducible refine Se.isL (o := ⟨none, _, _, _, _, _⟩) ?_); (refine Se.toL rfl (Se.sow 0 hs rfl rfl rfl rfl (SO0.out) ((by rw [SL0.out]; kernel_rfl)) ((by rw [SL0.out, ZL.out])) ?_); clear hs; intro w hs; try simp only [List.cons_append, List.nil_append, List.set_cons_zero] at hs)) | ((with_reducible refine Se.isL (o := ⟨some 17, _, _, _, _, _⟩) ?_); (refine Se.toL rfl (Se.ldw (o := ⟨some 17, _, _, _, _, _⟩) hs rfl rfl ((Reads.blk 1 rfl)) ((by rw [SL.out]; kernel_rfl)) (by kernel_rfl) ?_))) | ((with_reducible refine Se.isL (o := ⟨some 18, _, _, _, _, _⟩) ?_); (refine Se.toL rfl (Se.ldw (o := ⟨some 18, _, _, _, _, _⟩) hs rfl rfl ((Reads.blk 0 rfl)) ((by rw [SL.out]; kernel_rfl)) (by kernel_rfl) ?_))) | ((first | with_reducible refine Se.ab hs ?_ | with_reducible refine Se.abc hs ?_); clear hs; (first | (generalize w.heap.size = g2; intro w hs))))
  go_ret
  exact ⟨rfl, hs.drop.drop⟩
theorem appends_gen {lba n : Int} {a k : Nat} (hk : k ≤ 255) {Φ : List At → Prop} (HA : Calls Try.prog 40 #[.pointer P, .int .i64 lba, .int .i64 n] w fun e w' => e = .returned (.tuple #[iv a, .agg (stv k).toArray]) ∧ ∃ L', Φ L' ∧ St w0 X L' w') :
  Calls Try.prog 13 #[.pointer P, .int .i64 lba, .int .i64 n, iv a, iv k] w fun e w' => e = .returned (.bool true) ∧ ∃ L', Φ L' ∧ St w0 X L' w' := by
 have CA := Lib.hid HA
 have hs : True := trivial
 have CC := Lib.hid (fun (L : List At) (w : World) (hs : St w0 X L w) => code_st hs k hk)
 obtain ⟨S, hS⟩ : ∃ S, S = stv k := ⟨_, rfl⟩
 have SL := Lib.hid (show S.length = 4 by rw [hS]; exact stv_len k)
 have SO := Lib.hid (show ∀ v ∈ S, v.oneCell' = true by rw [hS]; exact stv_one k)
 have ZL := Lib.hid (show st0.length = 4 from rfl)
 have ZS : Hid ((Try.prog.info? 32).bind (fun i => i.zero.map (·.cells.toList)) = some st0) := Lib.hid zSt
 have d0 : ((a : Int) == (a : Int)) = true := by simp
 rw [← hS] at CA CC
 clear HA hS
 go_enter Try.func13, Try.ntmps13
 go_wp2_with (first | ((with_reducible refine Se.isL (o := ⟨some 12, _, _, _, _, _⟩) ?_); (refine Se.toL rfl (Se.al (o := ⟨some 12, _, _, _, _, _⟩) hs rfl (ZS.out) ?_); clear hs; rintro w g12 - hs)) | ((with_reducible refine Se.isL (o := ⟨none, _, _, _, _, _⟩) ?_); (refine Se.toL rfl (Se.sow 0 hs rfl rfl rfl rfl (SO.out) ((by rw [SL.out]; kernel_rfl)) ((by rw [SL.out, ZL.out])) ?_); clear hs; intro w hs; try simp only [List.cons_append, List.nil_append, List.set_cons_zero] at hs)) | ((with_reducible refine Se.isL (o := ⟨some 24, _, _, _, _, _⟩) ?_); (refine Se.toL rfl (Se.ldw (o := ⟨some 24, _, _, _, _, _⟩) hs rfl rfl ((Reads.blk 0 rfl)) ((by rw [SL.out]; kernel_rfl)) (by kernel_rfl) ?_))) | (go_at_call 40; refine Calls.mono (CA.out) ?_; clear hs; rintro e w ⟨rfl, L', hΦ, hs⟩) | (go_at_call 11; refine Calls.mono (CC.out _ _ hs) ?_; clear hs; rintro e w ⟨rfl, hs⟩))
 go_ret
 exact ⟨rfl, L', hΦ, hs.drop⟩
theorem in_st (hs : St w0 X L w) {sl : List Int} {A : Option Addr} {n c : Nat} (hn : n = sl.length) (hA : Reads L A (ints sl)) (hle : n ≤ 1048576) (x : Zn) :
  Calls Try.prog 26 #[iv x.st, .slice A n c] w fun e w' => e = .returned (.bool (inS sl x)) ∧ St w0 X L w' := by
 obtain ⟨s, hs0⟩ : ∃ s : Int, s = (x.st : Int) := ⟨_, rfl⟩
 have HI := Lib.hid (show inS sl x = (decide (n = 0) || sl.contains s) by
  unfold inS
  rw [hs0, hn]
  cases sl <;> simp)
 have HN := Lib.hid hn
 have HA := Lib.hid hA
 rw [show iv x.st = Value.int .i64 s by rw [hs0]]
 clear hn hA hs0
 go_enter Try.func26, Try.ntmps26
 go_wp2_with fail
 go_loopg [5] n (fun gh s5 wr => ∃ i : Nat, gh = n - i ∧ i ≤ n ∧ s5 = .int .i64 (i : Int) ∧ Hid ((sl.take i).contains s = false) ∧ St w0 X L wr)
 case atStart => exact ⟨0, rfl, Nat.zero_le _, rfl, Lib.hid rfl, hs⟩
 case round =>
  clear hs
  rename World => w
  obtain ⟨i, rfl, hi, rfl, HT, hs⟩ := hrel
  by_cases hlt : i < n
  ·have hlt' : (i : Int) < (n : Int) := by omega
   have hil : i < sl.length := by have := HN.out; omega
   obtain ⟨y, hy⟩ : ∃ y, y = sl[i] := ⟨_, rfl⟩
   have HY := Lib.hid (show (ints sl)[i]? = some (.int .i64 y) by unfold ints; rw [List.getElem?_map, List.getElem?_eq_getElem hil, hy]; rfl)
   obtain ⟨g, o, rfl, -, -⟩ := (HA.out w hs.hold).cells (by intro h; unfold ints at h; have := congrArg List.length h; simp at this; simp [this] at hil)
   have HC := Lib.hid (show Cell L g (o + i) (.int .i64 y) from HA.out.cell i HY.out)
   have HE := Lib.hid (show (sl.take (i + 1)).contains s = (s == y) by
    rw [List.take_add_one, List.getElem?_eq_getElem hil, Option.toList_some, ← hy, List.contains_eq_any_beq, List.any_append, ← List.contains_eq_any_beq, HT.out]
    simp)
   have HF := Lib.hid (show s = y → sl.contains s = true by intro h; rw [h, hy]; simp)
   clear hy hil HY
   by_cases he : y = s
   ·have f0 : (y == s) = true := by simpa using he
    have HR := Lib.hid (show inS sl x = true by rw [HI.out, HF.out he.symm, Bool.or_true])
    clear he HE HF
    go_wp2_with (first | ((with_reducible refine Se.isL (o := ⟨some 15, _, _, _, _, _⟩) ?_); (refine Se.toL rfl (Se.ld (o := ⟨some 15, _, _, _, _, _⟩) hs rfl rfl (HC.out) (by kernel_rfl) ?_))))
    go_ret
    exact ⟨by rw [HR.out]; rfl, hs⟩
   ·have f0 : (y == s) = false := by simpa using he
    have HE2 := Lib.hid (show (sl.take (i + 1)).contains s = false by rw [HE.out]; simpa using fun h => he h.symm)
    clear he HE HF
    go_wp2_with (first | ((with_reducible refine Se.isL (o := ⟨some 15, _, _, _, _, _⟩) ?_); (refine Se.toL rfl (Se.ld (o := ⟨some 15, _, _, _, _, _⟩) hs rfl rfl (HC.out) (by kernel_rfl) ?_))))
    go_roundg (n - (i + 1))
    case measure => omega
    case rel => exact ⟨i + 1, rfl, by omega, by go_num, HE2, hs⟩
  ·obtain rfl : i = n := by omega
   have HR := Lib.hid (show inS sl x = decide (i = 0) by
    rw [HI.out]
    have h := HT.out
    rw [HN.out, List.take_length] at h
    rw [h, Bool.or_false])
   clear HT
   by_cases h0 : i = 0
   ·have f0 : ((i : Int) == 0) = true := by simp; omega
    have HR2 := Lib.hid (show inS sl x = true by rw [HR.out, h0]; rfl)
    clear HR h0
    go_wp2_with fail
    go_ret
    exact ⟨by rw [HR2.out]; rfl, hs⟩
   ·have f0 : ((i : Int) == 0) = false := by simp; omega
    have HR2 := Lib.hid (show inS sl x = false by rw [HR.out]; exact decide_eq_false h0)
    clear HR h0
    go_wp2_with fail
    go_ret
    exact ⟨by rw [HR2.out]; rfl, hs⟩
end Zo
end Go.Proofs.Ythpgkkfahiglnaa


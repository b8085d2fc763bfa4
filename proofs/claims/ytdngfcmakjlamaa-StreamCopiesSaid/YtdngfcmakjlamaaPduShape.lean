/- Layer 35: the shapes of the kinds, lengths of digests, the data offset; 'must'. No condition. -/
import Derived.Test.YtdngfcmakjlamaaPduSl
set_option linter.unusedSimpArgs false
set_option linter.unusedVariables false
namespace Go.Proofs.Ytdngfcmakjlamaa
open Go Go.RowKit
namespace Pd
open Se (St At Reads Cell)
open Li (v8 v8_one Rd)
open Bv (n8 n16 n32 n64)
variable {w0 w : World} {X : List Nat} {L : List At}
attribute [local irreducible] Calls
abbrev iv (n : Nat) : Value := .int .i64 (n : Int)
abbrev fnv (n : Nat) : Value := .func (.func n) #[] #[]
def fv (f : Fm) : Value := .agg #[.bool f.hd, .bool f.dd, .int .i64 f.al]
def valF : Nat → Value
 | 0 => fnv 75
 | 1 => fnv 78
 | 9 => fnv 86
 | 2 | 3 | 4 | 5 | 6 | 7 => fnv 79
 | _ => .nilFunc
def wriF : Nat → Value
 | 0 | 1 => fnv 76
 | 2 | 3 => fnv 80
 | 4 | 5 => fnv 82
 | 6 | 7 => fnv 84
 | 9 => fnv 87
 | _ => .nilFunc
def reaF : Nat → Value
 | 0 | 1 => fnv 77
 | 2 | 3 => fnv 81
 | 4 | 5 => fnv 83
 | 6 | 7 | 9 => fnv 85
 | _ => .nilFunc
/-- The shape of a kind, as its value lies in memory. -/
def shV : Nat → List Value
 | 0 => [.int .i64 128, .int .i64 0, .int .i64 0, .int .i64 0, fnv 75, fnv 76, fnv 77]
 | 1 => [.int .i64 128, .int .i64 0, .int .i64 0, .int .i64 0, fnv 78, fnv 76, fnv 77]
 | 2 => [.int .i64 24, .int .i64 0, .int .i64 0, .int .i64 128, fnv 79, fnv 80, fnv 81]
 | 3 => [.int .i64 24, .int .i64 0, .int .i64 0, .int .i64 128, fnv 79, fnv 80, fnv 81]
 | 4 => [.int .i64 72, .int .i64 64, .int .i64 0, .int .i64 1048576, fnv 79, fnv 82, fnv 83]
 | 5 => [.int .i64 24, .int .i64 16, .int .i64 0, .int .i64 0, fnv 79, fnv 82, fnv 83]
 | 6 => [.int .i64 24, .int .i64 0, .int .i64 1, .int .i64 1048576, fnv 79, fnv 84, fnv 85]
 | 7 => [.int .i64 24, .int .i64 0, .int .i64 1, .int .i64 1048576, fnv 79, fnv 84, fnv 85]
 | 9 => [.int .i64 24, .int .i64 0, .int .i64 0, .int .i64 0, fnv 86, fnv 87, fnv 85]
 | _ => [.int .i64 0, .int .i64 0, .int .i64 0, .int .i64 0, .nilFunc, .nilFunc, .nilFunc]
theorem shV_eq (k : Nat) : shV k = [iv (hdr k), iv (entl k), iv (least k), iv (most k), valF k, wriF k, reaF k] := by
 unfold shV
 split <;> first | rfl | skip
 unfold hdr entl least most valF wriF reaF
 split <;> simp_all
theorem shV_one (k : Nat) : ∀ v ∈ shV k, v.oneCell' = true := by
 intro v hv
 rw [shV_eq] at hv
 simp only [List.mem_cons, List.not_mem_nil, or_false] at hv
 rcases hv with rfl | rfl | rfl | rfl | rfl | rfl | rfl
 ·rfl
 ·rfl
 ·rfl
 ·rfl
 ·unfold valF; split <;> rfl
 ·unfold wriF; split <;> rfl
 ·unfold reaF; split <;> rfl
def shapesV : List Value := (List.range 10).flatMap shV
theorem bsh0 (w : World) : (Instr.build 99 #[(0, .int .i64 128), (1, .int .i64 0), (2, .int .i64 0), (3, .int .i64 0), (4, fnv 75), (5, fnv 76), (6, fnv 77)]).run Try.prog w = .ok (.agg (shV 0).toArray) w := by kernel_rfl
theorem bsh1 (w : World) : (Instr.build 99 #[(0, .int .i64 128), (1, .int .i64 0), (2, .int .i64 0), (3, .int .i64 0), (4, fnv 78), (5, fnv 76), (6, fnv 77)]).run Try.prog w = .ok (.agg (shV 1).toArray) w := by kernel_rfl
theorem bsh2 (w : World) : (Instr.build 99 #[(0, .int .i64 24), (1, .int .i64 0), (2, .int .i64 0), (3, .int .i64 128), (4, fnv 79), (5, fnv 80), (6, fnv 81)]).run Try.prog w = .ok (.agg (shV 2).toArray) w := by kernel_rfl
theorem bsh3 (w : World) : (Instr.build 99 #[(0, .int .i64 24), (1, .int .i64 0), (2, .int .i64 0), (3, .int .i64 128), (4, fnv 79), (5, fnv 80), (6, fnv 81)]).run Try.prog w = .ok (.agg (shV 3).toArray) w := by kernel_rfl
theorem bsh4 (w : World) : (Instr.build 99 #[(0, .int .i64 72), (1, .int .i64 64), (2, .int .i64 0), (3, .int .i64 1048576), (4, fnv 79), (5, fnv 82), (6, fnv 83)]).run Try.prog w = .ok (.agg (shV 4).toArray) w := by kernel_rfl
theorem bsh5 (w : World) : (Instr.build 99 #[(0, .int .i64 24), (1, .int .i64 16), (2, .int .i64 0), (3, .int .i64 0), (4, fnv 79), (5, fnv 82), (6, fnv 83)]).run Try.prog w = .ok (.agg (shV 5).toArray) w := by kernel_rfl
theorem bsh6 (w : World) : (Instr.build 99 #[(0, .int .i64 24), (1, .int .i64 0), (2, .int .i64 1), (3, .int .i64 1048576), (4, fnv 79), (5, fnv 84), (6, fnv 85)]).run Try.prog w = .ok (.agg (shV 6).toArray) w := by kernel_rfl
theorem bsh7 (w : World) : (Instr.build 99 #[(0, .int .i64 24), (1, .int .i64 0), (2, .int .i64 1), (3, .int .i64 1048576), (4, fnv 79), (5, fnv 84), (6, fnv 85)]).run Try.prog w = .ok (.agg (shV 7).toArray) w := by kernel_rfl
theorem bsh9 (w : World) : (Instr.build 99 #[(0, .int .i64 24), (1, .int .i64 0), (2, .int .i64 0), (3, .int .i64 0), (4, fnv 86), (5, fnv 87), (6, fnv 85)]).run Try.prog w = .ok (.agg (shV 9).toArray) w := by kernel_rfl
theorem bshz (w : World) : (Instr.build 99 #[]).run Try.prog w = .ok (.agg (shV 8).toArray) w := by kernel_rfl
theorem shV_none (k : Nat) (hk : hdr k = 0) : shV k = shV 8 := by
 unfold hdr at hk
 split at hk
 all_goals first | omega | skip
 unfold shV
 split <;> simp_all
theorem bshs (w : World) : (Instr.build 113 #[(0, .agg (shV 0).toArray), (1, .agg (shV 1).toArray), (2, .agg (shV 2).toArray), (3, .agg (shV 3).toArray), (4, .agg (shV 4).toArray), (5, .agg (shV 5).toArray), (6, .agg (shV 6).toArray), (7, .agg (shV 7).toArray), (9, .agg (shV 9).toArray)]).run Try.prog w = .ok (.agg shapesV.toArray) w := by kernel_rfl
theorem shapes_len : shapesV.length = 70 := by decide +kernel
theorem shapes_one : ∀ v ∈ shapesV, v.oneCell' = true := by
 intro v hv
 obtain ⟨k, _, hk⟩ := List.mem_flatMap.1 hv
 exact shV_one k v hk
theorem zShapes : ∃ Z, (Try.prog.info? 113).bind (fun i => i.zero.map (·.cells.toList)) = some Z ∧ Z.length = 70 := ⟨(List.range 10).flatMap (fun _ => shV 8), by kernel_rfl, by decide +kernel⟩
theorem zShape : (Try.prog.info? 99).bind (fun i => i.zero.map (·.cells.toList)) = some (shV 8) := by kernel_rfl
theorem shapes_at0 : (shapesV.drop (7 * 0)).take 7 = shV 0 := by kernel_rfl
theorem shapes_at1 : (shapesV.drop (7 * 1)).take 7 = shV 1 := by kernel_rfl
theorem shapes_at2 : (shapesV.drop (7 * 2)).take 7 = shV 2 := by kernel_rfl
theorem shapes_at3 : (shapesV.drop (7 * 3)).take 7 = shV 3 := by kernel_rfl
theorem shapes_at4 : (shapesV.drop (7 * 4)).take 7 = shV 4 := by kernel_rfl
theorem shapes_at5 : (shapesV.drop (7 * 5)).take 7 = shV 5 := by kernel_rfl
theorem shapes_at6 : (shapesV.drop (7 * 6)).take 7 = shV 6 := by kernel_rfl
theorem shapes_at7 : (shapesV.drop (7 * 7)).take 7 = shV 7 := by kernel_rfl
theorem shapes_at8 : (shapesV.drop (7 * 8)).take 7 = shV 8 := by kernel_rfl
theorem shapes_at9 : (shapesV.drop (7 * 9)).take 7 = shV 9 := by kernel_rfl
theorem shapes_at (k : Nat) (hk : k < 10) : (shapesV.drop (7 * k)).take 7 = shV k := by
 have : k = 0 ∨ k = 1 ∨ k = 2 ∨ k = 3 ∨ k = 4 ∨ k = 5 ∨ k = 6 ∨ k = 7 ∨ k = 8 ∨ k = 9 := by omega
 rcases this with h | h | h | h | h | h | h | h | h | h <;> rw [h]
 ·exact shapes_at0
 ·exact shapes_at1
 ·exact shapes_at2
 ·exact shapes_at3
 ·exact shapes_at4
 ·exact shapes_at5
 ·exact shapes_at6
 ·exact shapes_at7
 ·exact shapes_at8
 ·exact shapes_at9
theorem shapes_hdr (k : Nat) (hk : k < 10) : shapesV[7 * k]? = some (iv (hdr k)) := by
 have h := congrArg (fun l => l[0]?) (shapes_at k hk)
 simpa [List.getElem?_take_of_lt, List.getElem?_drop, shV_eq] using h
attribute [local irreducible] shV shapesV
theorem stopHere {p : Prop} (h : p ∧ True) : p := h.1
set_option maxRecDepth 100000 in
set_option maxHeartbeats 4000000 in
theorem shapes_st (hs : St w0 X L w) {S : List Value} (hS : S = shapesV) : Calls Try.prog 65 #[] w fun e w' => e = .returned (.agg S.toArray) ∧ St w0 X L w' := by
 obtain ⟨Z, hZ, hZL⟩ := zShapes
 have HZ := Lib.hid hZ
 have ZL := Lib.hid hZL
 have SO := Lib.hid (show ∀ v ∈ S, v.oneCell' = true by rw [hS]; exact shapes_one)
 have SL := Lib.hid (show S.length = 70 by rw [hS]; exact shapes_len)
 have B : Hid (∀ w : World, (Instr.build 113 #[(0, .agg (shV 0).toArray), (1, .agg (shV 1).toArray), (2, .agg (shV 2).toArray), (3, .agg (shV 3).toArray), (4, .agg (shV 4).toArray), (5, .agg (shV 5).toArray), (6, .agg (shV 6).toArray), (7, .agg (shV 7).toArray), (9, .agg (shV 9).toArray)]).run Try.prog w = .ok (.agg S.toArray) w) := Lib.hid (by rw [hS]; exact bshs)
 clear hZ hZL hS
 go_enter Try.func65, Try.ntmps65
 go_wp2_with (first | ((with_reducible refine Se.isL (o := ⟨some 0, _, _, _, _, _⟩) ?_); (refine Se.toL rfl (Se.al (o := ⟨some 0, _, _, _, _, _⟩) hs rfl (HZ.out) ?_); clear hs; rintro w g0 - hs)) | ((with_reducible refine Se.isL (o := ⟨some 1, _, _, _, _, _⟩) ?_); (refine Se.toL rfl (Se.bd (o := ⟨some 1, _, _, _, _, _⟩) rfl rfl (bsh0 _) ?_))) | ((with_reducible refine Se.isL (o := ⟨some 2, _, _, _, _, _⟩) ?_); (refine Se.toL rfl (Se.bd (o := ⟨some 2, _, _, _, _, _⟩) rfl rfl (bsh1 _) ?_))) | ((with_reducible refine Se.isL (o := ⟨some 3, _, _, _, _, _⟩) ?_); (refine Se.toL rfl (Se.bd (o := ⟨some 3, _, _, _, _, _⟩) rfl rfl (bsh2 _) ?_))) | ((with_reducible refine Se.isL (o := ⟨some 4, _, _, _, _, _⟩) ?_); (refine Se.toL rfl (Se.bd (o := ⟨some 4, _, _, _, _, _⟩) rfl rfl (bsh3 _) ?_))) | ((with_reducible refine Se.isL (o := ⟨some 5, _, _, _, _, _⟩) ?_); (refine Se.toL rfl (Se.bd (o := ⟨some 5, _, _, _, _, _⟩) rfl rfl (bsh4 _) ?_))) | ((with_reducible refine Se.isL (o := ⟨some 6, _, _, _, _, _⟩) ?_); (refine Se.toL rfl (Se.bd (o := ⟨some 6, _, _, _, _, _⟩) rfl rfl (bsh5 _) ?_))) | ((with_reducible refine Se.isL (o := ⟨some 7, _, _, _, _, _⟩) ?_); (refine Se.toL rfl (Se.bd (o := ⟨some 7, _, _, _, _, _⟩) rfl rfl (bsh6 _) ?_))) | ((with_reducible refine Se.isL (o := ⟨some 8, _, _, _, _, _⟩) ?_); (refine Se.toL rfl (Se.bd (o := ⟨some 8, _, _, _, _, _⟩) rfl rfl (bsh7 _) ?_))) | ((with_reducible refine Se.isL (o := ⟨some 9, _, _, _, _, _⟩) ?_); (refine Se.toL rfl (Se.bd (o := ⟨some 9, _, _, _, _, _⟩) rfl rfl (bsh9 _) ?_))) | (with_reducible refine Se.isL (o := ⟨some 10, _, _, _, _, _⟩) ?_; refine stopHere ?_))
 refine ⟨Se.toL rfl (Se.bd (o := ⟨some 10, _, _, _, _, _⟩) (vs := [(0, .agg (shV 0).toArray), (1, .agg (shV 1).toArray), (2, .agg (shV 2).toArray), (3, .agg (shV 3).toArray), (4, .agg (shV 4).toArray), (5, .agg (shV 5).toArray), (6, .agg (shV 6).toArray), (7, .agg (shV 7).toArray), (9, .agg (shV 9).toArray)]) (v := .agg S.toArray) rfl (by rfl) (B.out _) ?_), trivial⟩
 go_wp2_with (first | ((with_reducible refine Se.isL (o := ⟨none, _, _, _, _, _⟩) ?_); (refine Se.toL rfl (Se.sow 0 hs rfl rfl rfl rfl (SO.out) ((by rw [SL.out]; kernel_rfl)) ((by rw [SL.out, ZL.out])) ?_); clear hs; intro w hs; try simp only [List.cons_append, List.nil_append, List.set_cons_zero] at hs)))
 refine Li.bodyPost_blk (by rfl) (by rfl) (hs.hold (.blk g0 113 S) (by simp)) Try.underlying113 rfl (by rw [SL.out]; kernel_rfl) rfl ⟨rfl, ?_⟩
 exact hs.drop
set_option maxRecDepth 100000 in
set_option maxHeartbeats 4000000 in
theorem plain_any (k : Nat) (w : World) : Calls Try.prog 66 #[.int .u8 k] w fun e w' => e = .returned (.bool (decide (k ≤ 3))) ∧ w' = w := by
 go_enter Try.func66, Try.ntmps66
 go_wp2
 go_ret
 refine ⟨?_, rfl⟩
 show Ending.returned (.bool (decide ((k : Int) ≤ 3))) = _
 congr 2
 simp only [decide_eq_decide]; omega
set_option maxRecDepth 100000 in
set_option maxHeartbeats 4000000 in
theorem carries_any (k : Nat) (w : World) : Calls Try.prog 105 #[.int .u8 k] w fun e w' => e = .returned (.bool (decide (k = 6 ∨ k = 7))) ∧ w' = w := by
 have h67 : k = 6 ∨ k = 7 ∨ (((k : Int) == 6) = false ∧ ((k : Int) == 7) = false ∧ ¬ (k = 6 ∨ k = 7)) := by
  by_cases h6 : k = 6
  ·exact .inl h6
  ·by_cases h7 : k = 7
   ·exact .inr (.inl h7)
   ·exact .inr (.inr ⟨by simp; omega, by simp; omega, by omega⟩)
 rcases h67 with rfl | rfl | ⟨h1, h2, h3⟩
 ·go_enter Try.func105, Try.ntmps105
  go_wp2
  go_ret
  exact ⟨rfl, rfl⟩
 ·go_enter Try.func105, Try.ntmps105
  go_wp2
  go_ret
  exact ⟨rfl, rfl⟩
 ·have H3 := Lib.hid h3
  clear h3
  go_enter Try.func105, Try.ntmps105
  go_wp2
  go_ret
  refine ⟨?_, rfl⟩
  rw [decide_eq_false H3.out]
  first | rfl | (rw [h1, h2])
set_option maxRecDepth 100000 in
set_option maxHeartbeats 4000000 in
theorem validFraming_st (hs : St w0 X L w) (f : Fm) : Calls Try.prog 63 #[fv f] w fun e w' => e = .returned (.bool (framed f)) ∧ St w0 X L w' := by
 obtain ⟨hd, dd, al⟩ := f
 have HF : Hid (framed ⟨hd, dd, al⟩ = decide (0 ≤ al ∧ al ≤ 31)) := Lib.hid rfl
 have hc : (decide (0 ≤ al) = false ∧ ¬ (0 ≤ al ∧ al ≤ 31)) ∨ (0 ≤ al ∧ decide (al ≤ 31) = false ∧ ¬ (0 ≤ al ∧ al ≤ 31)) ∨ (0 ≤ al ∧ al ≤ 31 ∧ (0 ≤ al ∧ al ≤ 31)) := by
  by_cases h1 : 0 ≤ al
  ·by_cases h2 : al ≤ 31
   ·exact .inr (.inr ⟨h1, h2, h1, h2⟩)
   ·exact .inr (.inl ⟨h1, by simpa using h2, fun h => h2 h.2⟩)
  ·exact .inl ⟨by simpa using h1, fun h => h1 h.1⟩
 unfold fv
 dsimp only
 rcases hc with ⟨h1, h3⟩ | ⟨h1, h2, h3⟩ | ⟨h1, h2, h3⟩
 ·have H3 := Lib.hid h3
  clear h3
  go_enter Try.func63, Try.ntmps63
  go_wp2_with (first | ((with_reducible refine Se.isL (o := ⟨some 4, _, _, _, _, _⟩) ?_); (refine Se.toL rfl (Se.ld (o := ⟨some 4, _, _, _, _, _⟩) hs rfl rfl (Cell.blk 0 rfl rfl) (by kernel_rfl) ?_))) | ((first | with_reducible refine Se.ab hs ?_ | with_reducible refine Se.abc hs ?_); clear hs; (first | (generalize w.heap.size = g1; intro w hs))))
  go_ret
  rw [HF.out, decide_eq_false H3.out]
  exact ⟨by simp_all, hs.drop⟩
 ·have H3 := Lib.hid h3
  clear h3
  go_enter Try.func63, Try.ntmps63
  go_wp2_with (first | ((with_reducible refine Se.isL (o := ⟨some 4, _, _, _, _, _⟩) ?_); (refine Se.toL rfl (Se.ld (o := ⟨some 4, _, _, _, _, _⟩) hs rfl rfl (Cell.blk 0 rfl rfl) (by kernel_rfl) ?_))) | ((with_reducible refine Se.isL (o := ⟨some 8, _, _, _, _, _⟩) ?_); (refine Se.toL rfl (Se.ld (o := ⟨some 8, _, _, _, _, _⟩) hs rfl rfl (Cell.blk 0 rfl rfl) (by kernel_rfl) ?_))) | ((first | with_reducible refine Se.ab hs ?_ | with_reducible refine Se.abc hs ?_); clear hs; (first | (generalize w.heap.size = g1; intro w hs))))
  go_ret
  rw [HF.out, decide_eq_false H3.out]
  exact ⟨by simp_all, hs.drop⟩
 ·have H3 := Lib.hid h3
  clear h3
  go_enter Try.func63, Try.ntmps63
  go_wp2_with (first | ((with_reducible refine Se.isL (o := ⟨some 4, _, _, _, _, _⟩) ?_); (refine Se.toL rfl (Se.ld (o := ⟨some 4, _, _, _, _, _⟩) hs rfl rfl (Cell.blk 0 rfl rfl) (by kernel_rfl) ?_))) | ((with_reducible refine Se.isL (o := ⟨some 8, _, _, _, _, _⟩) ?_); (refine Se.toL rfl (Se.ld (o := ⟨some 8, _, _, _, _, _⟩) hs rfl rfl (Cell.blk 0 rfl rfl) (by kernel_rfl) ?_))) | ((first | with_reducible refine Se.ab hs ?_ | with_reducible refine Se.abc hs ?_); clear hs; (first | (generalize w.heap.size = g1; intro w hs))))
  go_ret
  rw [HF.out, decide_eq_true H3.out]
  exact ⟨by simp_all, hs.drop⟩
set_option maxRecDepth 100000 in
set_option maxHeartbeats 4000000 in
theorem must_any (b : Bool) (n : Nat) (w : World) : Calls Try.prog 104 #[.bool b, iv n] w fun e w' => e = (if b then .returned (.tuple #[]) else .panicked [{ v := .iface 27 (iv n), recovered := false }]) ∧ w' = w := by
 cases b with
 | true =>
  go_enter Try.func104, Try.ntmps104
  go_wp2
  go_end0
  exact ⟨rfl, rfl⟩
 | false =>
  go_enter Try.func104, Try.ntmps104
  go_wp2
  exact ⟨rfl, rfl, rfl⟩
end Pd
end Go.Proofs.Ytdngfcmakjlamaa
/- Layer 35: the shape of a kind, the lengths of digests, the data offset. No condition but a valid framing. -/
namespace Go.Proofs.Ytdngfcmakjlamaa
open Go Go.RowKit
namespace Pd
open Se (St At Reads Cell)
open Li (v8 v8_one Rd)
open Bv (n8 n16 n32 n64)
variable {w0 w : World} {X : List Nat} {L : List At}
attribute [local irreducible] Calls
theorem kinds_cases (k : Nat) : (k = 0 ∨ k = 1 ∨ k = 2 ∨ k = 3 ∨ k = 4 ∨ k = 5 ∨ k = 6 ∨ k = 7 ∨ k = 9) ∨ k = 8 ∨ 10 ≤ k := by omega
theorem hdr_none (k : Nat) (h : k = 8 ∨ 10 ≤ k) : hdr k = 0 := by
 unfold hdr
 split <;> omega
attribute [local irreducible] shV shapesV
set_option maxRecDepth 100000 in
set_option maxHeartbeats 4000000 in
theorem of_st (hs : St w0 X L w) (k : Nat) (hk : k < 256) {b : Bool} (hb : decide (hdr k ≠ 0) = b) {xs : List Value} (hxs : shV k = xs) : Calls Try.prog 51 #[.int .u8 k] w fun e w' => e = .returned (.tuple #[.agg xs.toArray, .bool b]) ∧ St w0 X L w' := by
 obtain ⟨S, hS⟩ : ∃ S, S = shapesV := ⟨_, rfl⟩
 obtain ⟨Z, hZ, hZL⟩ := zShapes
 obtain ⟨Y, hY⟩ : ∃ Y, Y = shV 8 := ⟨_, rfl⟩
 have HY := Lib.hid hY
 have ZY := Lib.hid zShape
 rw [← hY] at ZY
 have YL := Lib.hid (show Y.length = 7 by rw [hY, shV_eq]; rfl)
 have HS := Lib.hid hS
 have HZ := Lib.hid hZ
 have ZL := Lib.hid hZL
 have HB := Lib.hid hb
 have HX := Lib.hid hxs
 have XL := Lib.hid (show xs.length = 7 by rw [← hxs, shV_eq]; rfl)
 have XO := Lib.hid (show ∀ v ∈ xs, v.oneCell' = true by rw [← hxs]; exact shV_one k)
 have SO := Lib.hid (show ∀ v ∈ S, v.oneCell' = true by rw [hS]; exact shapes_one)
 have SL := Lib.hid (show S.length = 70 by rw [hS]; exact shapes_len)
 have SA := Lib.hid (fun i (h : i < 10) => show (S.drop (7 * i)).take 7 = shV i by rw [hS]; exact shapes_at i h)
 have SH := Lib.hid (fun i (h : i < 10) => show S[7 * i]? = some (iv (hdr i)) by rw [hS]; exact shapes_hdr i h)
 clear hZ hZL hS hb hxs hY
 rcases kinds_cases k with (rfl | rfl | rfl | rfl | rfl | rfl | rfl | rfl | rfl) | rfl | h10
 ·have C : Hid (S[0]? = some (.int .i64 128)) := Lib.hid (SH.out 0 (by omega))
  obtain rfl : b = true := by rw [← HB.out]; rfl
  have R : Hid ((S.drop 0).take 7 = xs) := Lib.hid ((SA.out 0 (by omega)).trans HX.out)
  go_enter Try.func51, Try.ntmps51
  go_wp2_with (first | ((with_reducible refine Se.isL (o := ⟨some 2, _, _, _, _, _⟩) ?_); (refine Se.toL rfl (Se.al (o := ⟨some 2, _, _, _, _, _⟩) hs rfl (ZY.out) ?_); clear hs; rintro w g2 - hs)) | ((with_reducible refine Se.isL (o := ⟨some 4, _, _, _, _, _⟩) ?_); (refine Se.toL rfl (Se.al (o := ⟨some 4, _, _, _, _, _⟩) hs rfl (HZ.out) ?_); clear hs; rintro w g4 - hs)) | ((with_reducible refine Se.isL (o := ⟨none, Op.store 113 _ _, _, _, _, _⟩) ?_); (refine Se.toL rfl (Se.sow 0 hs rfl rfl rfl rfl (SO.out) ((by rw [SL.out]; kernel_rfl)) ((by rw [SL.out, ZL.out])) ?_); clear hs; intro w hs; try simp only [List.cons_append, List.nil_append, List.set_cons_zero] at hs)) | ((with_reducible refine Se.isL (o := ⟨some 13, _, _, _, _, _⟩) ?_); (refine Se.toL rfl (Se.ld (o := ⟨some 13, _, _, _, _, _⟩) hs rfl rfl (Cell.blk 0 rfl C.out) (by kernel_rfl) ?_))) | ((with_reducible refine Se.isL (o := ⟨none, Op.store 99 _ _, _, _, _, _⟩) ?_); (refine Se.toL rfl (Se.sow 1 hs rfl rfl rfl rfl ((by rw [R.out]; exact XO.out)) ((by rw [R.out, XL.out]; kernel_rfl)) ((by rw [R.out, XL.out, YL.out])) ?_); clear hs; intro w hs; try simp only [List.cons_append, List.nil_append, List.set_cons_zero, List.set_cons_succ] at hs)) | (go_at_call 65; refine Calls.mono (shapes_st hs HS.out) ?_; clear hs; rintro e w ⟨rfl, hs⟩) | (with_reducible refine Se.isL (o := ⟨some 19, _, _, _, _, _⟩) ?_; refine Se.toL rfl (Se.lda (o := ⟨some 19, _, _, _, _, _⟩) (n := 7) hs rfl rfl ((Reads.blk 0 rfl).at 0) (by kernel_rfl) (by kernel_rfl) (by rw [List.length_drop, SL.out]; decide) ?_)))
  rw [R.out] at hs
  refine Se.ret hs [.agg xs.toArray, .bool true] rfl ⟨Se.resRow rfl (Reads.blk 1 rfl) (by kernel_rfl) (by rw [XL.out]; kernel_rfl), rfl, trivial⟩ (by simp) rfl ?_
  exact ⟨rfl, hs.drop.drop⟩
 ·have C : Hid (S[7]? = some (.int .i64 128)) := Lib.hid (SH.out 1 (by omega))
  obtain rfl : b = true := by rw [← HB.out]; rfl
  have R : Hid ((S.drop 7).take 7 = xs) := Lib.hid ((SA.out 1 (by omega)).trans HX.out)
  go_enter Try.func51, Try.ntmps51
  go_wp2_with (first | ((with_reducible refine Se.isL (o := ⟨some 2, _, _, _, _, _⟩) ?_); (refine Se.toL rfl (Se.al (o := ⟨some 2, _, _, _, _, _⟩) hs rfl (ZY.out) ?_); clear hs; rintro w g2 - hs)) | ((with_reducible refine Se.isL (o := ⟨some 4, _, _, _, _, _⟩) ?_); (refine Se.toL rfl (Se.al (o := ⟨some 4, _, _, _, _, _⟩) hs rfl (HZ.out) ?_); clear hs; rintro w g4 - hs)) | ((with_reducible refine Se.isL (o := ⟨none, Op.store 113 _ _, _, _, _, _⟩) ?_); (refine Se.toL rfl (Se.sow 0 hs rfl rfl rfl rfl (SO.out) ((by rw [SL.out]; kernel_rfl)) ((by rw [SL.out, ZL.out])) ?_); clear hs; intro w hs; try simp only [List.cons_append, List.nil_append, List.set_cons_zero] at hs)) | ((with_reducible refine Se.isL (o := ⟨some 13, _, _, _, _, _⟩) ?_); (refine Se.toL rfl (Se.ld (o := ⟨some 13, _, _, _, _, _⟩) hs rfl rfl (Cell.blk 0 rfl C.out) (by kernel_rfl) ?_))) | ((with_reducible refine Se.isL (o := ⟨none, Op.store 99 _ _, _, _, _, _⟩) ?_); (refine Se.toL rfl (Se.sow 1 hs rfl rfl rfl rfl ((by rw [R.out]; exact XO.out)) ((by rw [R.out, XL.out]; kernel_rfl)) ((by rw [R.out, XL.out, YL.out])) ?_); clear hs; intro w hs; try simp only [List.cons_append, List.nil_append, List.set_cons_zero, List.set_cons_succ] at hs)) | (go_at_call 65; refine Calls.mono (shapes_st hs HS.out) ?_; clear hs; rintro e w ⟨rfl, hs⟩) | (with_reducible refine Se.isL (o := ⟨some 19, _, _, _, _, _⟩) ?_; refine Se.toL rfl (Se.lda (o := ⟨some 19, _, _, _, _, _⟩) (n := 7) hs rfl rfl ((Reads.blk 0 rfl).at 7) (by kernel_rfl) (by kernel_rfl) (by rw [List.length_drop, SL.out]; decide) ?_)))
  rw [R.out] at hs
  refine Se.ret hs [.agg xs.toArray, .bool true] rfl ⟨Se.resRow rfl (Reads.blk 1 rfl) (by kernel_rfl) (by rw [XL.out]; kernel_rfl), rfl, trivial⟩ (by simp) rfl ?_
  exact ⟨rfl, hs.drop.drop⟩
 ·have C : Hid (S[14]? = some (.int .i64 24)) := Lib.hid (SH.out 2 (by omega))
  obtain rfl : b = true := by rw [← HB.out]; rfl
  have R : Hid ((S.drop 14).take 7 = xs) := Lib.hid ((SA.out 2 (by omega)).trans HX.out)
  go_enter Try.func51, Try.ntmps51
  go_wp2_with (first | ((with_reducible refine Se.isL (o := ⟨some 2, _, _, _, _, _⟩) ?_); (refine Se.toL rfl (Se.al (o := ⟨some 2, _, _, _, _, _⟩) hs rfl (ZY.out) ?_); clear hs; rintro w g2 - hs)) | ((with_reducible refine Se.isL (o := ⟨some 4, _, _, _, _, _⟩) ?_); (refine Se.toL rfl (Se.al (o := ⟨some 4, _, _, _, _, _⟩) hs rfl (HZ.out) ?_); clear hs; rintro w g4 - hs)) | ((with_reducible refine Se.isL (o := ⟨none, Op.store 113 _ _, _, _, _, _⟩) ?_); (refine Se.toL rfl (Se.sow 0 hs rfl rfl rfl rfl (SO.out) ((by rw [SL.out]; kernel_rfl)) ((by rw [SL.out, ZL.out])) ?_); clear hs; intro w hs; try simp only [List.cons_append, List.nil_append, List.set_cons_zero] at hs)) | ((with_reducible refine Se.isL (o := ⟨some 13, _, _, _, _, _⟩) ?_); (refine Se.toL rfl (Se.ld (o := ⟨some 13, _, _, _, _, _⟩) hs rfl rfl (Cell.blk 0 rfl C.out) (by kernel_rfl) ?_))) | ((with_reducible refine Se.isL (o := ⟨none, Op.store 99 _ _, _, _, _, _⟩) ?_); (refine Se.toL rfl (Se.sow 1 hs rfl rfl rfl rfl ((by rw [R.out]; exact XO.out)) ((by rw [R.out, XL.out]; kernel_rfl)) ((by rw [R.out, XL.out, YL.out])) ?_); clear hs; intro w hs; try simp only [List.cons_append, List.nil_append, List.set_cons_zero, List.set_cons_succ] at hs)) | (go_at_call 65; refine Calls.mono (shapes_st hs HS.out) ?_; clear hs; rintro e w ⟨rfl, hs⟩) | (with_reducible refine Se.isL (o := ⟨some 19, _, _, _, _, _⟩) ?_; refine Se.toL rfl (Se.lda (o := ⟨some 19, _, _, _, _, _⟩) (n := 7) hs rfl rfl ((Reads.blk 0 rfl).at 14) (by kernel_rfl) (by kernel_rfl) (by rw [List.length_drop, SL.out]; decide) ?_)))
  rw [R.out] at hs
  refine Se.ret hs [.agg xs.toArray, .bool true] rfl ⟨Se.resRow rfl (Reads.blk 1 rfl) (by kernel_rfl) (by rw [XL.out]; kernel_rfl), rfl, trivial⟩ (by simp) rfl ?_
  exact ⟨rfl, hs.drop.drop⟩
 ·have C : Hid (S[21]? = some (.int .i64 24)) := Lib.hid (SH.out 3 (by omega))
  obtain rfl : b = true := by rw [← HB.out]; rfl
  have R : Hid ((S.drop 21).take 7 = xs) := Lib.hid ((SA.out 3 (by omega)).trans HX.out)
  go_enter Try.func51, Try.ntmps51
  go_wp2_with (first | ((with_reducible refine Se.isL (o := ⟨some 2, _, _, _, _, _⟩) ?_); (refine Se.toL rfl (Se.al (o := ⟨some 2, _, _, _, _, _⟩) hs rfl (ZY.out) ?_); clear hs; rintro w g2 - hs)) | ((with_reducible refine Se.isL (o := ⟨some 4, _, _, _, _, _⟩) ?_); (refine Se.toL rfl (Se.al (o := ⟨some 4, _, _, _, _, _⟩) hs rfl (HZ.out) ?_); clear hs; rintro w g4 - hs)) | ((with_reducible refine Se.isL (o := ⟨none, Op.store 113 _ _, _, _, _, _⟩) ?_); (refine Se.toL rfl (Se.sow 0 hs rfl rfl rfl rfl (SO.out) ((by rw [SL.out]; kernel_rfl)) ((by rw [SL.out, ZL.out])) ?_); clear hs; intro w hs; try simp only [List.cons_append, List.nil_append, List.set_cons_zero] at hs)) | ((with_reducible refine Se.isL (o := ⟨some 13, _, _, _, _, _⟩) ?_); (refine Se.toL rfl (Se.ld (o := ⟨some 13, _, _, _, _, _⟩) hs rfl rfl (Cell.blk 0 rfl C.out) (by kernel_rfl) ?_))) | ((with_reducible refine Se.isL (o := ⟨none, Op.store 99 _ _, _, _, _, _⟩) ?_); (refine Se.toL rfl (Se.sow 1 hs rfl rfl rfl rfl ((by rw [R.out]; exact XO.out)) ((by rw [R.out, XL.out]; kernel_rfl)) ((by rw [R.out, XL.out, YL.out])) ?_); clear hs; intro w hs; try simp only [List.cons_append, List.nil_append, List.set_cons_zero, List.set_cons_succ] at hs)) | (go_at_call 65; refine Calls.mono (shapes_st hs HS.out) ?_; clear hs; rintro e w ⟨rfl, hs⟩) | (with_reducible refine Se.isL (o := ⟨some 19, _, _, _, _, _⟩) ?_; refine Se.toL rfl (Se.lda (o := ⟨some 19, _, _, _, _, _⟩) (n := 7) hs rfl rfl ((Reads.blk 0 rfl).at 21) (by kernel_rfl) (by kernel_rfl) (by rw [List.length_drop, SL.out]; decide) ?_)))
  rw [R.out] at hs
  refine Se.ret hs [.agg xs.toArray, .bool true] rfl ⟨Se.resRow rfl (Reads.blk 1 rfl) (by kernel_rfl) (by rw [XL.out]; kernel_rfl), rfl, trivial⟩ (by simp) rfl ?_
  exact ⟨rfl, hs.drop.drop⟩
 ·have C : Hid (S[28]? = some (.int .i64 72)) := Lib.hid (SH.out 4 (by omega))
  obtain rfl : b = true := by rw [← HB.out]; rfl
  have R : Hid ((S.drop 28).take 7 = xs) := Lib.hid ((SA.out 4 (by omega)).trans HX.out)
  go_enter Try.func51, Try.ntmps51
  go_wp2_with (first | ((with_reducible refine Se.isL (o := ⟨some 2, _, _, _, _, _⟩) ?_); (refine Se.toL rfl (Se.al (o := ⟨some 2, _, _, _, _, _⟩) hs rfl (ZY.out) ?_); clear hs; rintro w g2 - hs)) | ((with_reducible refine Se.isL (o := ⟨some 4, _, _, _, _, _⟩) ?_); (refine Se.toL rfl (Se.al (o := ⟨some 4, _, _, _, _, _⟩) hs rfl (HZ.out) ?_); clear hs; rintro w g4 - hs)) | ((with_reducible refine Se.isL (o := ⟨none, Op.store 113 _ _, _, _, _, _⟩) ?_); (refine Se.toL rfl (Se.sow 0 hs rfl rfl rfl rfl (SO.out) ((by rw [SL.out]; kernel_rfl)) ((by rw [SL.out, ZL.out])) ?_); clear hs; intro w hs; try simp only [List.cons_append, List.nil_append, List.set_cons_zero] at hs)) | ((with_reducible refine Se.isL (o := ⟨some 13, _, _, _, _, _⟩) ?_); (refine Se.toL rfl (Se.ld (o := ⟨some 13, _, _, _, _, _⟩) hs rfl rfl (Cell.blk 0 rfl C.out) (by kernel_rfl) ?_))) | ((with_reducible refine Se.isL (o := ⟨none, Op.store 99 _ _, _, _, _, _⟩) ?_); (refine Se.toL rfl (Se.sow 1 hs rfl rfl rfl rfl ((by rw [R.out]; exact XO.out)) ((by rw [R.out, XL.out]; kernel_rfl)) ((by rw [R.out, XL.out, YL.out])) ?_); clear hs; intro w hs; try simp only [List.cons_append, List.nil_append, List.set_cons_zero, List.set_cons_succ] at hs)) | (go_at_call 65; refine Calls.mono (shapes_st hs HS.out) ?_; clear hs; rintro e w ⟨rfl, hs⟩) | (with_reducible refine Se.isL (o := ⟨some 19, _, _, _, _, _⟩) ?_; refine Se.toL rfl (Se.lda (o := ⟨some 19, _, _, _, _, _⟩) (n := 7) hs rfl rfl ((Reads.blk 0 rfl).at 28) (by kernel_rfl) (by kernel_rfl) (by rw [List.length_drop, SL.out]; decide) ?_)))
  rw [R.out] at hs
  refine Se.ret hs [.agg xs.toArray, .bool true] rfl ⟨Se.resRow rfl (Reads.blk 1 rfl) (by kernel_rfl) (by rw [XL.out]; kernel_rfl), rfl, trivial⟩ (by simp) rfl ?_
  exact ⟨rfl, hs.drop.drop⟩
 ·have C : Hid (S[35]? = some (.int .i64 24)) := Lib.hid (SH.out 5 (by omega))
  obtain rfl : b = true := by rw [← HB.out]; rfl
  have R : Hid ((S.drop 35).take 7 = xs) := Lib.hid ((SA.out 5 (by omega)).trans HX.out)
  go_enter Try.func51, Try.ntmps51
  go_wp2_with (first | ((with_reducible refine Se.isL (o := ⟨some 2, _, _, _, _, _⟩) ?_); (refine Se.toL rfl (Se.al (o := ⟨some 2, _, _, _, _, _⟩) hs rfl (ZY.out) ?_); clear hs; rintro w g2 - hs)) | ((with_reducible refine Se.isL (o := ⟨some 4, _, _, _, _, _⟩) ?_); (refine Se.toL rfl (Se.al (o := ⟨some 4, _, _, _, _, _⟩) hs rfl (HZ.out) ?_); clear hs; rintro w g4 - hs)) | ((with_reducible refine Se.isL (o := ⟨none, Op.store 113 _ _, _, _, _, _⟩) ?_); (refine Se.toL rfl (Se.sow 0 hs rfl rfl rfl rfl (SO.out) ((by rw [SL.out]; kernel_rfl)) ((by rw [SL.out, ZL.out])) ?_); clear hs; intro w hs; try simp only [List.cons_append, List.nil_append, List.set_cons_zero] at hs)) | ((with_reducible refine Se.isL (o := ⟨some 13, _, _, _, _, _⟩) ?_); (refine Se.toL rfl (Se.ld (o := ⟨some 13, _, _, _, _, _⟩) hs rfl rfl (Cell.blk 0 rfl C.out) (by kernel_rfl) ?_))) | ((with_reducible refine Se.isL (o := ⟨none, Op.store 99 _ _, _, _, _, _⟩) ?_); (refine Se.toL rfl (Se.sow 1 hs rfl rfl rfl rfl ((by rw [R.out]; exact XO.out)) ((by rw [R.out, XL.out]; kernel_rfl)) ((by rw [R.out, XL.out, YL.out])) ?_); clear hs; intro w hs; try simp only [List.cons_append, List.nil_append, List.set_cons_zero, List.set_cons_succ] at hs)) | (go_at_call 65; refine Calls.mono (shapes_st hs HS.out) ?_; clear hs; rintro e w ⟨rfl, hs⟩) | (with_reducible refine Se.isL (o := ⟨some 19, _, _, _, _, _⟩) ?_; refine Se.toL rfl (Se.lda (o := ⟨some 19, _, _, _, _, _⟩) (n := 7) hs rfl rfl ((Reads.blk 0 rfl).at 35) (by kernel_rfl) (by kernel_rfl) (by rw [List.length_drop, SL.out]; decide) ?_)))
  rw [R.out] at hs
  refine Se.ret hs [.agg xs.toArray, .bool true] rfl ⟨Se.resRow rfl (Reads.blk 1 rfl) (by kernel_rfl) (by rw [XL.out]; kernel_rfl), rfl, trivial⟩ (by simp) rfl ?_
  exact ⟨rfl, hs.drop.drop⟩
 ·have C : Hid (S[42]? = some (.int .i64 24)) := Lib.hid (SH.out 6 (by omega))
  obtain rfl : b = true := by rw [← HB.out]; rfl
  have R : Hid ((S.drop 42).take 7 = xs) := Lib.hid ((SA.out 6 (by omega)).trans HX.out)
  go_enter Try.func51, Try.ntmps51
  go_wp2_with (first | ((with_reducible refine Se.isL (o := ⟨some 2, _, _, _, _, _⟩) ?_); (refine Se.toL rfl (Se.al (o := ⟨some 2, _, _, _, _, _⟩) hs rfl (ZY.out) ?_); clear hs; rintro w g2 - hs)) | ((with_reducible refine Se.isL (o := ⟨some 4, _, _, _, _, _⟩) ?_); (refine Se.toL rfl (Se.al (o := ⟨some 4, _, _, _, _, _⟩) hs rfl (HZ.out) ?_); clear hs; rintro w g4 - hs)) | ((with_reducible refine Se.isL (o := ⟨none, Op.store 113 _ _, _, _, _, _⟩) ?_); (refine Se.toL rfl (Se.sow 0 hs rfl rfl rfl rfl (SO.out) ((by rw [SL.out]; kernel_rfl)) ((by rw [SL.out, ZL.out])) ?_); clear hs; intro w hs; try simp only [List.cons_append, List.nil_append, List.set_cons_zero] at hs)) | ((with_reducible refine Se.isL (o := ⟨some 13, _, _, _, _, _⟩) ?_); (refine Se.toL rfl (Se.ld (o := ⟨some 13, _, _, _, _, _⟩) hs rfl rfl (Cell.blk 0 rfl C.out) (by kernel_rfl) ?_))) | ((with_reducible refine Se.isL (o := ⟨none, Op.store 99 _ _, _, _, _, _⟩) ?_); (refine Se.toL rfl (Se.sow 1 hs rfl rfl rfl rfl ((by rw [R.out]; exact XO.out)) ((by rw [R.out, XL.out]; kernel_rfl)) ((by rw [R.out, XL.out, YL.out])) ?_); clear hs; intro w hs; try simp only [List.cons_append, List.nil_append, List.set_cons_zero, List.set_cons_succ] at hs)) | (go_at_call 65; refine Calls.mono (shapes_st hs HS.out) ?_; clear hs; rintro e w ⟨rfl, hs⟩) | (with_reducible refine Se.isL (o := ⟨some 19, _, _, _, _, _⟩) ?_; refine Se.toL rfl (Se.lda (o := ⟨some 19, _, _, _, _, _⟩) (n := 7) hs rfl rfl ((Reads.blk 0 rfl).at 42) (by kernel_rfl) (by kernel_rfl) (by rw [List.length_drop, SL.out]; decide) ?_)))
  rw [R.out] at hs
  refine Se.ret hs [.agg xs.toArray, .bool true] rfl ⟨Se.resRow rfl (Reads.blk 1 rfl) (by kernel_rfl) (by rw [XL.out]; kernel_rfl), rfl, trivial⟩ (by simp) rfl ?_
  exact ⟨rfl, hs.drop.drop⟩
 ·have C : Hid (S[49]? = some (.int .i64 24)) := Lib.hid (SH.out 7 (by omega))
  obtain rfl : b = true := by rw [← HB.out]; rfl
  have R : Hid ((S.drop 49).take 7 = xs) := Lib.hid ((SA.out 7 (by omega)).trans HX.out)
  go_enter Try.func51, Try.ntmps51
  go_wp2_with (first | ((with_reducible refine Se.isL (o := ⟨some 2, _, _, _, _, _⟩) ?_); (refine Se.toL rfl (Se.al (o := ⟨some 2, _, _, _, _, _⟩) hs rfl (ZY.out) ?_); clear hs; rintro w g2 - hs)) | ((with_reducible refine Se.isL (o := ⟨some 4, _, _, _, _, _⟩) ?_); (refine Se.toL rfl (Se.al (o := ⟨some 4, _, _, _, _, _⟩) hs rfl (HZ.out) ?_); clear hs; rintro w g4 - hs)) | ((with_reducible refine Se.isL (o := ⟨none, Op.store 113 _ _, _, _, _, _⟩) ?_); (refine Se.toL rfl (Se.sow 0 hs rfl rfl rfl rfl (SO.out) ((by rw [SL.out]; kernel_rfl)) ((by rw [SL.out, ZL.out])) ?_); clear hs; intro w hs; try simp only [List.cons_append, List.nil_append, List.set_cons_zero] at hs)) | ((with_reducible refine Se.isL (o := ⟨some 13, _, _, _, _, _⟩) ?_); (refine Se.toL rfl (Se.ld (o := ⟨some 13, _, _, _, _, _⟩) hs rfl rfl (Cell.blk 0 rfl C.out) (by kernel_rfl) ?_))) | ((with_reducible refine Se.isL (o := ⟨none, Op.store 99 _ _, _, _, _, _⟩) ?_); (refine Se.toL rfl (Se.sow 1 hs rfl rfl rfl rfl ((by rw [R.out]; exact XO.out)) ((by rw [R.out, XL.out]; kernel_rfl)) ((by rw [R.out, XL.out, YL.out])) ?_); clear hs; intro w hs; try simp only [List.cons_append, List.nil_append, List.set_cons_zero, List.set_cons_succ] at hs)) | (go_at_call 65; refine Calls.mono (shapes_st hs HS.out) ?_; clear hs; rintro e w ⟨rfl, hs⟩) | (with_reducible refine Se.isL (o := ⟨some 19, _, _, _, _, _⟩) ?_; refine Se.toL rfl (Se.lda (o := ⟨some 19, _, _, _, _, _⟩) (n := 7) hs rfl rfl ((Reads.blk 0 rfl).at 49) (by kernel_rfl) (by kernel_rfl) (by rw [List.length_drop, SL.out]; decide) ?_)))
  rw [R.out] at hs
  refine Se.ret hs [.agg xs.toArray, .bool true] rfl ⟨Se.resRow rfl (Reads.blk 1 rfl) (by kernel_rfl) (by rw [XL.out]; kernel_rfl), rfl, trivial⟩ (by simp) rfl ?_
  exact ⟨rfl, hs.drop.drop⟩
 ·have C : Hid (S[63]? = some (.int .i64 24)) := Lib.hid (SH.out 9 (by omega))
  obtain rfl : b = true := by rw [← HB.out]; rfl
  have R : Hid ((S.drop 63).take 7 = xs) := Lib.hid ((SA.out 9 (by omega)).trans HX.out)
  go_enter Try.func51, Try.ntmps51
  go_wp2_with (first | ((with_reducible refine Se.isL (o := ⟨some 2, _, _, _, _, _⟩) ?_); (refine Se.toL rfl (Se.al (o := ⟨some 2, _, _, _, _, _⟩) hs rfl (ZY.out) ?_); clear hs; rintro w g2 - hs)) | ((with_reducible refine Se.isL (o := ⟨some 4, _, _, _, _, _⟩) ?_); (refine Se.toL rfl (Se.al (o := ⟨some 4, _, _, _, _, _⟩) hs rfl (HZ.out) ?_); clear hs; rintro w g4 - hs)) | ((with_reducible refine Se.isL (o := ⟨none, Op.store 113 _ _, _, _, _, _⟩) ?_); (refine Se.toL rfl (Se.sow 0 hs rfl rfl rfl rfl (SO.out) ((by rw [SL.out]; kernel_rfl)) ((by rw [SL.out, ZL.out])) ?_); clear hs; intro w hs; try simp only [List.cons_append, List.nil_append, List.set_cons_zero] at hs)) | ((with_reducible refine Se.isL (o := ⟨some 13, _, _, _, _, _⟩) ?_); (refine Se.toL rfl (Se.ld (o := ⟨some 13, _, _, _, _, _⟩) hs rfl rfl (Cell.blk 0 rfl C.out) (by kernel_rfl) ?_))) | ((with_reducible refine Se.isL (o := ⟨none, Op.store 99 _ _, _, _, _, _⟩) ?_); (refine Se.toL rfl (Se.sow 1 hs rfl rfl rfl rfl ((by rw [R.out]; exact XO.out)) ((by rw [R.out, XL.out]; kernel_rfl)) ((by rw [R.out, XL.out, YL.out])) ?_); clear hs; intro w hs; try simp only [List.cons_append, List.nil_append, List.set_cons_zero, List.set_cons_succ] at hs)) | (go_at_call 65; refine Calls.mono (shapes_st hs HS.out) ?_; clear hs; rintro e w ⟨rfl, hs⟩) | (with_reducible refine Se.isL (o := ⟨some 19, _, _, _, _, _⟩) ?_; refine Se.toL rfl (Se.lda (o := ⟨some 19, _, _, _, _, _⟩) (n := 7) hs rfl rfl ((Reads.blk 0 rfl).at 63) (by kernel_rfl) (by kernel_rfl) (by rw [List.length_drop, SL.out]; decide) ?_)))
  rw [R.out] at hs
  refine Se.ret hs [.agg xs.toArray, .bool true] rfl ⟨Se.resRow rfl (Reads.blk 1 rfl) (by kernel_rfl) (by rw [XL.out]; kernel_rfl), rfl, trivial⟩ (by simp) rfl ?_
  exact ⟨rfl, hs.drop.drop⟩
 ·have C : Hid (S[56]? = some (.int .i64 0)) := Lib.hid (SH.out 8 (by omega))
  obtain rfl : b = false := by rw [← HB.out]; rfl
  have HXY : Hid (Y = xs) := Lib.hid (HY.out.trans HX.out)
  have B : Hid (∀ w : World, (Instr.build 99 #[]).run Try.prog w = .ok (.agg xs.toArray) w) := Lib.hid (by rw [← HX.out]; exact bshz)
  go_enter Try.func51, Try.ntmps51
  go_wp2_with (first | ((with_reducible refine Se.isL (o := ⟨some 2, _, _, _, _, _⟩) ?_); (refine Se.toL rfl (Se.al (o := ⟨some 2, _, _, _, _, _⟩) hs rfl (ZY.out) ?_); clear hs; rintro w g2 - hs)) | ((with_reducible refine Se.isL (o := ⟨some 4, _, _, _, _, _⟩) ?_); (refine Se.toL rfl (Se.al (o := ⟨some 4, _, _, _, _, _⟩) hs rfl (HZ.out) ?_); clear hs; rintro w g4 - hs)) | ((with_reducible refine Se.isL (o := ⟨none, Op.store 113 _ _, _, _, _, _⟩) ?_); (refine Se.toL rfl (Se.sow 0 hs rfl rfl rfl rfl (SO.out) ((by rw [SL.out]; kernel_rfl)) ((by rw [SL.out, ZL.out])) ?_); clear hs; intro w hs; try simp only [List.cons_append, List.nil_append, List.set_cons_zero] at hs)) | ((with_reducible refine Se.isL (o := ⟨some 13, _, _, _, _, _⟩) ?_); (refine Se.toL rfl (Se.ld (o := ⟨some 13, _, _, _, _, _⟩) hs rfl rfl (Cell.blk 0 rfl C.out) (by kernel_rfl) ?_))) | ((with_reducible refine Se.isL (o := ⟨some 16, _, _, _, _, _⟩) ?_); (refine Se.toL rfl (Se.bd (o := ⟨some 16, _, _, _, _, _⟩) rfl rfl (B.out _) ?_))) | ((with_reducible refine Se.isL (o := ⟨none, Op.store 99 _ _, _, _, _, _⟩) ?_); (refine Se.toL rfl (Se.sow 1 hs rfl rfl rfl rfl (XO.out) ((by rw [XL.out]; kernel_rfl)) ((by rw [XL.out, YL.out])) ?_); clear hs; intro w hs; try simp only [List.cons_append, List.nil_append, List.set_cons_zero, List.set_cons_succ] at hs)) | (go_at_call 65; refine Calls.mono (shapes_st hs HS.out) ?_; clear hs; rintro e w ⟨rfl, hs⟩))
  refine Se.ret hs [.agg xs.toArray, .bool false] rfl ⟨Se.resRow rfl (Reads.blk 1 rfl) (by kernel_rfl) (by rw [XL.out]; kernel_rfl), rfl, trivial⟩ (by simp) rfl ?_
  exact ⟨rfl, hs.drop.drop⟩
 ·obtain rfl : b = false := by rw [← HB.out, hdr_none k (.inr h10)]; rfl
  have HXY : Hid (shV 8 = xs) := Lib.hid (by rw [← HX.out, shV_none k (hdr_none k (.inr h10))])
  have B : Hid (∀ w : World, (Instr.build 99 #[]).run Try.prog w = .ok (.agg xs.toArray) w) := Lib.hid (by rw [← HXY.out]; exact bshz)
  have hw : wrap64 (k : Int) = k := by rw [← IntWalk.i64_left]; exact IntWalk.i64_in _ (by omega)
  have h10b : decide ((10 : Int) ≤ (k : Int)) = true := by simp; omega
  go_enter Try.func51, Try.ntmps51
  go_wp2_with (first | ((with_reducible refine Se.isL (o := ⟨some 2, _, _, _, _, _⟩) ?_); (refine Se.toL rfl (Se.al (o := ⟨some 2, _, _, _, _, _⟩) hs rfl (ZY.out) ?_); clear hs; rintro w g2 - hs)) | ((with_reducible refine Se.isL (o := ⟨some 4, _, _, _, _, _⟩) ?_); (refine Se.toL rfl (Se.al (o := ⟨some 4, _, _, _, _, _⟩) hs rfl (HZ.out) ?_); clear hs; rintro w g4 - hs)) | ((with_reducible refine Se.isL (o := ⟨none, Op.store 113 _ _, _, _, _, _⟩) ?_); (refine Se.toL rfl (Se.sow 0 hs rfl rfl rfl rfl (SO.out) ((by rw [SL.out]; kernel_rfl)) ((by rw [SL.out, ZL.out])) ?_); clear hs; intro w hs; try simp only [List.cons_append, List.nil_append, List.set_cons_zero] at hs)) | ((with_reducible refine Se.isL (o := ⟨some 16, _, _, _, _, _⟩) ?_); (refine Se.toL rfl (Se.bd (o := ⟨some 16, _, _, _, _, _⟩) rfl rfl (B.out _) ?_))) | ((with_reducible refine Se.isL (o := ⟨none, Op.store 99 _ _, _, _, _, _⟩) ?_); (refine Se.toL rfl (Se.sow 1 hs rfl rfl rfl rfl (XO.out) ((by rw [XL.out]; kernel_rfl)) ((by rw [XL.out, YL.out])) ?_); clear hs; intro w hs; try simp only [List.cons_append, List.nil_append, List.set_cons_zero, List.set_cons_succ] at hs)) | (go_at_call 65; refine Calls.mono (shapes_st hs HS.out) ?_; clear hs; rintro e w ⟨rfl, hs⟩))
  refine Se.ret hs [.agg xs.toArray, .bool false] rfl ⟨Se.resRow rfl (Reads.blk 1 rfl) (by kernel_rfl) (by rw [XL.out]; kernel_rfl), rfl, trivial⟩ (by simp) rfl ?_
  exact ⟨rfl, hs.drop.drop⟩
set_option maxRecDepth 100000 in
set_option maxHeartbeats 4000000 in
theorem digests_st (hs : St w0 X L w) (k : Nat) (f : Fm) (data : Bool) {h d : Nat} (hh : hsum k f = h) (hd : dsum k f data = d) : Calls Try.prog 52 #[.int .u8 k, fv f, .bool data] w fun e w' => e = .returned (.tuple #[iv h, iv d]) ∧ St w0 X L w' := by
 obtain ⟨hdb, ddb, al⟩ := f
 unfold fv
 dsimp only
 have HH := Lib.hid hh
 have HD := Lib.hid hd
 by_cases h3 : k ≤ 3
 ·have P : Hid (∀ w : World, Calls Try.prog 66 #[.int .u8 k] w fun e w' => e = .returned (.bool true) ∧ w' = w) := Lib.hid (fun w => by have := plain_any k w; rwa [decide_eq_true h3] at this)
  obtain rfl : h = 0 := by rw [← hh]; unfold hsum; rw [if_neg (by omega)]
  obtain rfl : d = 0 := by rw [← hd]; unfold dsum; rw [if_neg (by omega)]
  clear hh hd h3
  go_enter Try.func52, Try.ntmps52
  go_wp2_with (first | ((first | with_reducible refine Se.ab hs ?_ | with_reducible refine Se.abc hs ?_); clear hs; (first | (generalize w.heap.size = g4; intro w hs))) | (go_at_call 66; refine Calls.mono (P.out _) ?_; rintro e w' ⟨rfl, rfl⟩))
  go_ret2
  exact ⟨rfl, hs.drop⟩
 ·have P : Hid (∀ w : World, Calls Try.prog 66 #[.int .u8 k] w fun e w' => e = .returned (.bool false) ∧ w' = w) := Lib.hid (fun w => by have := plain_any k w; rwa [decide_eq_false h3] at this)
  have eh : h = if hdb = true then 4 else 0 := by rw [← hh]; unfold hsum; simp [show 3 < k by omega]
  have ed : d = if ddb = true ∧ data = true then 4 else 0 := by rw [← hd]; unfold dsum; simp [show 3 < k by omega]
  clear hh hd h3 HH HD
  cases hdb <;> cases ddb <;> cases data <;> simp only [Bool.false_eq_true, if_true, if_false, and_true, and_false, and_self, true_and, false_and] at eh ed <;> subst eh ed
  all_goals
   go_enter Try.func52, Try.ntmps52
   go_wp2_with (first | ((with_reducible refine Se.isL (o := ⟨some 11, _, _, _, _, _⟩) ?_); (refine Se.toL rfl (Se.ld (o := ⟨some 11, _, _, _, _, _⟩) hs rfl rfl (Cell.blk 0 rfl rfl) (by kernel_rfl) ?_))) | ((with_reducible refine Se.isL (o := ⟨some 13, _, _, _, _, _⟩) ?_); (refine Se.toL rfl (Se.ld (o := ⟨some 13, _, _, _, _, _⟩) hs rfl rfl (Cell.blk 0 rfl rfl) (by kernel_rfl) ?_))) | ((first | with_reducible refine Se.ab hs ?_ | with_reducible refine Se.abc hs ?_); clear hs; (first | (generalize w.heap.size = g4; intro w hs))) | (go_at_call 66; refine Calls.mono (P.out _) ?_; rintro e w' ⟨rfl, rfl⟩))
   go_ret2
   exact ⟨rfl, hs.drop⟩
end Pd
end Go.Proofs.Ytdngfcmakjlamaa


/- Layer 35: the data offset of a PDU. A valid framing. -/
import Derived.Test.YtdngfcmakjlamaaPduShape
set_option linter.unusedSimpArgs false
set_option linter.unusedVariables false
namespace Go.Proofs.Ytdngfcmakjlamaa
open Go Go.RowKit
namespace Pd
open Se (St At Reads Cell)
open Li (v8 v8_one Rd)
open Bv (n8 n16 n32 n64)
variable {w0 w : World} {X : List Nat} {L : List At}
attribute [local irreducible] Calls
theorem hdr_le (k : Nat) : hdr k ≤ 128 := by unfold hdr; split <;> omega
theorem hsum_le (k : Nat) (f : Fm) : hsum k f ≤ 4 := by unfold hsum; split <;> omega
theorem dsum_le (k : Nat) (f : Fm) (b : Bool) : dsum k f b ≤ 4 := by unfold dsum; split <;> omega
theorem framed_al {f : Fm} (h : framed f = true) : 0 ≤ f.al ∧ f.al ≤ 31 := by simpa [framed] using h
theorem start_le (k : Nat) {f : Fm} (h : framed f = true) : start k f ≤ 260 := by
 have := framed_al h
 have h1 : unit k f ≤ 128 ∧ 1 ≤ unit k f := by unfold unit; split <;> omega
 have := hdr_le k
 have := hsum_le k f
 have h2 := Nat.div_mul_le_self (hdr k + hsum k f + unit k f - 1) (unit k f)
 unfold start
 omega
attribute [local irreducible] shV
set_option maxRecDepth 100000 in
set_option maxHeartbeats 4000000 in
theorem start_st (hs : St w0 X L w) (k : Nat) {f : Fm} (hf : framed f = true) {xs : List Value} (hxs : shV k = xs) {n : Nat} (hn : start k f = n) : Calls Try.prog 53 #[.int .u8 k, .agg xs.toArray, fv f] w fun e w' => e = .returned (iv n) ∧ St w0 X L w' := by
 have hal := framed_al hf
 obtain ⟨h, hh⟩ : ∃ h, h = hsum k f := ⟨_, rfl⟩
 obtain ⟨q, hq⟩ : ∃ q, q = hdr k := ⟨_, rfl⟩
 obtain ⟨u, hu⟩ : ∃ u, u = unit k f := ⟨_, rfl⟩
 have hn' : n = (q + h + u - 1) / u * u := by rw [← hn, hq, hh, hu]; rfl
 have hul : 1 ≤ u ∧ u ≤ 128 := by rw [hu]; unfold unit; split <;> omega
 have hql : q ≤ 128 := by rw [hq]; exact hdr_le k
 have hhl : h ≤ 4 := by rw [hh]; exact hsum_le k f
 have HH := Lib.hid hh
 have X0 := Lib.hid (show xs[0]? = some (iv q) by rw [← hxs, shV_eq, hq]; rfl)
 have XL := Lib.hid (show xs.length = 7 by rw [← hxs, shV_eq]; rfl)
 have e1 : IntKind.i64.wrap ((q : Int) + (h : Int)) = ((q + h : Nat) : Int) := by rw [IntWalk.i64_in _ (by omega)]; omega
 have e2 : IntKind.i64.wrap (((q + h : Nat) : Int) + (u : Int)) = ((q + h + u : Nat) : Int) := by rw [IntWalk.i64_in _ (by omega)]; omega
 have e3 : IntKind.i64.wrap (((q + h + u : Nat) : Int) - 1) = ((q + h + u - 1 : Nat) : Int) := by rw [IntWalk.i64_in _ (by omega)]; omega
 have e4 : IntKind.i64.wrap (((q + h + u - 1 : Nat) : Int).tdiv (u : Int)) = (((q + h + u - 1) / u : Nat) : Int) := by rw [IntWalk.i64_quo _ _ (by omega)]; rfl
 have hdm := Nat.div_mul_le_self (q + h + u - 1) u
 have e5 : IntKind.i64.wrap ((((q + h + u - 1) / u : Nat) : Int) * (u : Int)) = (((q + h + u - 1) / u * u : Nat) : Int) := by rw [← Int.natCast_mul, IntWalk.i64_in _ (by omega)]
 have hu0 : ¬ (u : Int) = 0 := by omega
 have EE : Hid (((q : Int) + (h : Int) + (u : Int) - 1) / (u : Int) * (u : Int) = (((q + h + u - 1) / u * u : Nat) : Int)) := Lib.hid (by rw [Int.natCast_mul, Int.natCast_ediv]; congr 2; omega)
 have EW : Hid (wrap64 (((q + h + u - 1) / u * u : Nat) : Int) = (((q + h + u - 1) / u * u : Nat) : Int)) := Lib.hid (by rw [← IntWalk.i64_left]; exact IntWalk.i64_in _ (by omega))
 rw [hn']
 obtain ⟨hdb, ddb, al⟩ := f
 unfold fv
 dsimp only at hal ⊢
 have b1 : IntKind.i64.wrap (al + 1) = al + 1 := IntWalk.i64_in _ (by omega)
 have b2 : IntKind.i64.wrap (4 * (al + 1)) = 4 * (al + 1) := IntWalk.i64_in _ (by omega)
 obtain ⟨d, hd⟩ : ∃ d, dsum k ⟨hdb, ddb, al⟩ true = d := ⟨_, rfl⟩
 have DD := Lib.hid hd
 clear hxs hq hn' hd hf hn hdm hh
 by_cases h3 : k ≤ 3
 ·obtain rfl : u = 4 := by rw [hu]; unfold unit; rw [if_neg (by omega)]
  have P : Hid (∀ w : World, Calls Try.prog 66 #[.int .u8 k] w fun e w' => e = .returned (.bool true) ∧ w' = w) := Lib.hid (fun w => by have := plain_any k w; rwa [decide_eq_true h3] at this)
  clear h3 hu
  go_enter Try.func53, Try.ntmps53
  go_wp2_with (first | ((with_reducible refine Se.isL (o := ⟨some 11, _, _, _, _, _⟩) ?_); (refine Se.toL rfl (Se.ld (o := ⟨some 11, _, _, _, _, _⟩) hs rfl rfl (Cell.blk 0 rfl rfl) (by kernel_rfl) ?_))) | ((with_reducible refine Se.isL (o := ⟨some 18, _, _, _, _, _⟩) ?_); (refine Se.toL rfl (Se.ldw (o := ⟨some 18, _, _, _, _, _⟩) hs rfl rfl ((Reads.blk 0 rfl)) ((by kernel_rfl)) (by kernel_rfl) ?_))) | ((with_reducible refine Se.isL (o := ⟨some 23, _, _, _, _, _⟩) ?_); (refine Se.toL rfl (Se.ld (o := ⟨some 23, _, _, _, _, _⟩) hs rfl rfl (Cell.blk 1 rfl X0.out) (by kernel_rfl) ?_))) | ((first | with_reducible refine Se.ab hs ?_ | with_reducible refine Se.abc hs ?_); clear hs; (first | ((fail_if_success (have _q := g4)); generalize w.heap.size = g4; intro w hs) | (generalize w.heap.size = g5; intro w hs))) | (go_at_call 66; refine Calls.mono (P.out _) ?_; rintro e w' ⟨rfl, rfl⟩) | (go_at_call 52; refine Calls.mono (digests_st hs k ⟨hdb, ddb, al⟩ true HH.out.symm DD.out) ?_; clear hs; rintro e w ⟨rfl, hs⟩))
  go_ret
  refine ⟨?_, hs.drop.drop⟩
  show Ending.returned (.int .i64 _) = .returned (.int .i64 _)
  congr 2
 ·have eu : (4 * (al + 1)) = (u : Int) := by rw [hu]; unfold unit; rw [if_pos (by omega)]; dsimp only; omega
  have P : Hid (∀ w : World, Calls Try.prog 66 #[.int .u8 k] w fun e w' => e = .returned (.bool false) ∧ w' = w) := Lib.hid (fun w => by have := plain_any k w; rwa [decide_eq_false h3] at this)
  clear h3 hu
  go_enter Try.func53, Try.ntmps53
  go_wp2_with (first | ((with_reducible refine Se.isL (o := ⟨some 11, _, _, _, _, _⟩) ?_); (refine Se.toL rfl (Se.ld (o := ⟨some 11, _, _, _, _, _⟩) hs rfl rfl (Cell.blk 0 rfl rfl) (by kernel_rfl) ?_))) | ((with_reducible refine Se.isL (o := ⟨some 18, _, _, _, _, _⟩) ?_); (refine Se.toL rfl (Se.ldw (o := ⟨some 18, _, _, _, _, _⟩) hs rfl rfl ((Reads.blk 0 rfl)) ((by kernel_rfl)) (by kernel_rfl) ?_))) | ((with_reducible refine Se.isL (o := ⟨some 23, _, _, _, _, _⟩) ?_); (refine Se.toL rfl (Se.ld (o := ⟨some 23, _, _, _, _, _⟩) hs rfl rfl (Cell.blk 1 rfl X0.out) (by kernel_rfl) ?_))) | ((first | with_reducible refine Se.ab hs ?_ | with_reducible refine Se.abc hs ?_); clear hs; (first | ((fail_if_success (have _q := g4)); generalize w.heap.size = g4; intro w hs) | (generalize w.heap.size = g5; intro w hs))) | (go_at_call 66; refine Calls.mono (P.out _) ?_; rintro e w' ⟨rfl, rfl⟩) | (go_at_call 52; refine Calls.mono (digests_st hs k ⟨hdb, ddb, al⟩ true HH.out.symm DD.out) ?_; clear hs; rintro e w ⟨rfl, hs⟩))
  go_ret
  refine ⟨?_, hs.drop.drop⟩
  show Ending.returned (.int .i64 _) = .returned (.int .i64 _)
  congr 2
  rw [EE.out]
  exact EW.out
end Pd
end Go.Proofs.Ytdngfcmakjlamaa


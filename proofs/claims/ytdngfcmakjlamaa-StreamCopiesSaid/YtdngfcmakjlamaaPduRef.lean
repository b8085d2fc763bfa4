/- Layer 35: the reference's small functions. No condition but Go's own limits. -/
import Derived.Test.YtdngfcmakjlamaaPduHv
import Derived.Test.YtdngfcmakjlamaaPduBase
import Derived.Test.YtdngfcmakjlamaaBaseB
set_option linter.unusedSimpArgs false
set_option linter.unusedVariables false
namespace Go.Proofs.Ytdngfcmakjlamaa
open Go Go.RowKit
namespace Pd
open Se (St At Reads Cell)
open Li (v8 v8_one Rd Blk Fr)
open Bv (n8 n16 n32 n64)
variable {w0 w : World} {X : List Nat} {L : List At} {h : Hd} {EA DA : Option Addr} {en ec dn dc : Nat}
attribute [local irreducible] Calls
theorem ivi : (Try.prog.info? 3).map (fun i => (i.zero, i.size)) = some (some (.int .i64 0), 1) := by kernel_rfl
set_option maxRecDepth 100000 in
set_option maxHeartbeats 4000000 in
theorem rHeader_st (hs : St w0 X L w) (k : Nat) (hk : k < 256) {n : Nat} (hn : hdr k = n) : Calls Try.prog 31 #[iv k] w fun e w' => e = .returned (iv n) ∧ St w0 X L w' := by
 have h0 : ¬ ((k : Int) < 0) := by omega
 have h0' : decide ((k : Int) < 0) = false := by simp
 have key : (k = 0 ∨ k = 1 ∨ k = 2 ∨ k = 3 ∨ k = 4 ∨ k = 5 ∨ k = 6 ∨ k = 7 ∨ k = 8 ∨ k = 9) ∨ 9 < k := by omega
 subst hn
 rcases key with (rfl | rfl | rfl | rfl | rfl | rfl | rfl | rfl | rfl | rfl) | h9
 iterate 10
  ·clear h0 h0' hk
   go_enter Try.func31, Try.ntmps31
   go_wp2_with (first | ((with_reducible refine Se.isL (o := ⟨some 9, _, _, _, _, _⟩) ?_); (refine Se.toL rfl (Se.bsv (o := ⟨some 9, _, _, _, _, _⟩) hs rfl Try.underlying94 ivi rfl ([.int .i64 128, .int .i64 128, .int .i64 24, .int .i64 24, .int .i64 72, .int .i64 24, .int .i64 24, .int .i64 24, .int .i64 0, .int .i64 24]) (by rfl) (by rfl) (by decide) (by decide) (by simp [Value.oneCell']) ?_); clear hs; rintro w g9 - hs)) | ((with_reducible refine Se.isL (o := ⟨some 12, _, _, _, _, _⟩) ?_); (refine Se.toL rfl (Se.ld (o := ⟨some 12, _, _, _, _, _⟩) hs rfl rfl (Cell.blk 0 rfl rfl) (by kernel_rfl) ?_))))
   go_ret
   exact ⟨rfl, hs.drop⟩
 ·have h9' : decide ((9 : Int) < (k : Int)) = true := by simp; omega
  have e : hdr k = 0 := by unfold hdr; split <;> omega
  rw [e]
  clear h9 e
  go_enter Try.func31, Try.ntmps31
  go_wp2_with fail
  go_ret
  exact ⟨rfl, hs⟩
set_option maxRecDepth 100000 in
set_option maxHeartbeats 4000000 in
theorem rMost_any (w : World) (k : Nat) {n : Nat} (hn : most k = n) : Calls Try.prog 32 #[iv k] w fun e w' => e = .returned (iv n) ∧ w' = w := by
 have key : (k = 2 ∨ k = 3 ∨ k = 4 ∨ k = 6 ∨ k = 7) ∨ (((k : Int) == 2) = false ∧ ((k : Int) == 3) = false ∧ ((k : Int) == 4) = false ∧ ((k : Int) == 6) = false ∧ ((k : Int) == 7) = false ∧ most k = 0) := by
  by_cases hk : k = 2 ∨ k = 3 ∨ k = 4 ∨ k = 6 ∨ k = 7
  ·exact .inl hk
  ·refine .inr ⟨?_, ?_, ?_, ?_, ?_, ?_⟩
   iterate 5
    ·simp; omega
   ·unfold most; split <;> omega
 subst hn
 rcases key with (rfl | rfl | rfl | rfl | rfl) | ⟨h2, h3, h4, h6, h7, h0⟩
 iterate 5
  ·go_enter Try.func32, Try.ntmps32
   go_wp2
   go_ret
   exact ⟨rfl, rfl⟩
 ·rw [h0]
  clear h0
  go_enter Try.func32, Try.ntmps32
  go_wp2
  go_ret
  exact ⟨rfl, rfl⟩
set_option maxRecDepth 100000 in
set_option maxHeartbeats 4000000 in
theorem rFramed_st (hs : St w0 X L w) (f : Fm) : Calls Try.prog 14 #[fv f] w fun e w' => e = .returned (.bool (framed f)) ∧ St w0 X L w' := by
 obtain ⟨hd, dd, al⟩ := f
 have HF : Hid (framed ⟨hd, dd, al⟩ = decide (0 ≤ al ∧ al ≤ 31)) := Lib.hid rfl
 have hc := and2 (0 ≤ al) (al ≤ 31)
 unfold fv
 dsimp only
 rcases hc with ⟨h1, h3⟩ | ⟨h1, h2, h3⟩ | ⟨h1, h2, h3⟩
 ·have H3 := Lib.hid h3
  clear h3
  go_enter Try.func14, Try.ntmps14
  go_wp2_with (first | ((with_reducible refine Se.isL (o := ⟨some 4, _, _, _, _, _⟩) ?_); (refine Se.toL rfl (Se.ld (o := ⟨some 4, _, _, _, _, _⟩) hs rfl rfl (Cell.blk 0 rfl rfl) (by kernel_rfl) ?_))) | ((first | with_reducible refine Se.ab hs ?_ | with_reducible refine Se.abc hs ?_); clear hs; (first | (generalize w.heap.size = g1; intro w hs))))
  go_ret
  rw [HF.out, H3.out]
  exact ⟨by simp_all, hs.drop⟩
 iterate 2
  ·have H3 := Lib.hid h3
   clear h3
   go_enter Try.func14, Try.ntmps14
   go_wp2_with (first | ((with_reducible refine Se.isL (o := ⟨some 4, _, _, _, _, _⟩) ?_); (refine Se.toL rfl (Se.ld (o := ⟨some 4, _, _, _, _, _⟩) hs rfl rfl (Cell.blk 0 rfl rfl) (by kernel_rfl) ?_))) | ((with_reducible refine Se.isL (o := ⟨some 8, _, _, _, _, _⟩) ?_); (refine Se.toL rfl (Se.ld (o := ⟨some 8, _, _, _, _, _⟩) hs rfl rfl (Cell.blk 0 rfl rfl) (by kernel_rfl) ?_))) | ((first | with_reducible refine Se.ab hs ?_ | with_reducible refine Se.abc hs ?_); clear hs; (first | (generalize w.heap.size = g1; intro w hs))))
   go_ret
   rw [HF.out, H3.out]
   exact ⟨by simp_all, hs.drop⟩
set_option maxRecDepth 100000 in
set_option maxHeartbeats 4000000 in
theorem rHeaderSum_st (hs : St w0 X L w) (k : Nat) (f : Fm) {n : Nat} (hn : hsum k f = n) : Calls Try.prog 37 #[iv k, fv f] w fun e w' => e = .returned (iv n) ∧ St w0 X L w' := by
 obtain ⟨hd, dd, al⟩ := f
 unfold fv
 dsimp only
 by_cases h3 : 3 < k
 ·have h3' : (3 : Int) < (k : Int) := by omega
  cases hd with
  | true =>
   obtain rfl : n = 4 := by rw [← hn]; unfold hsum; rw [if_pos ⟨h3, rfl⟩]
   clear hn h3
   go_enter Try.func37, Try.ntmps37
   go_wp2_with (first | ((with_reducible refine Se.isL (o := ⟨some 8, _, _, _, _, _⟩) ?_); (refine Se.toL rfl (Se.ld (o := ⟨some 8, _, _, _, _, _⟩) hs rfl rfl (Cell.blk 0 rfl rfl) (by kernel_rfl) ?_))) | ((with_reducible refine Se.isL (o := ⟨some 7, _, _, _, _, _⟩) ?_); (refine Se.toL rfl (Se.ld (o := ⟨some 7, _, _, _, _, _⟩) hs rfl rfl (Cell.blk 0 rfl rfl) (by kernel_rfl) ?_))) | ((with_reducible refine Se.isL (o := ⟨some 9, _, _, _, _, _⟩) ?_); (refine Se.toL rfl (Se.ld (o := ⟨some 9, _, _, _, _, _⟩) hs rfl rfl (Cell.blk 0 rfl rfl) (by kernel_rfl) ?_))) | ((with_reducible refine Se.isL (o := ⟨some 6, _, _, _, _, _⟩) ?_); (refine Se.toL rfl (Se.ld (o := ⟨some 6, _, _, _, _, _⟩) hs rfl rfl (Cell.blk 0 rfl rfl) (by kernel_rfl) ?_))) | ((with_reducible refine Se.isL (o := ⟨some 10, _, _, _, _, _⟩) ?_); (refine Se.toL rfl (Se.ld (o := ⟨some 10, _, _, _, _, _⟩) hs rfl rfl (Cell.blk 0 rfl rfl) (by kernel_rfl) ?_))) | ((first | with_reducible refine Se.ab hs ?_ | with_reducible refine Se.abc hs ?_); clear hs; (first | (generalize w.heap.size = g2; intro w hs))))
   go_ret
   exact ⟨rfl, hs.drop⟩
  | false =>
   obtain rfl : n = 0 := by rw [← hn]; unfold hsum; rw [if_neg (by simp)]
   clear hn h3
   go_enter Try.func37, Try.ntmps37
   go_wp2_with (first | ((with_reducible refine Se.isL (o := ⟨some 8, _, _, _, _, _⟩) ?_); (refine Se.toL rfl (Se.ld (o := ⟨some 8, _, _, _, _, _⟩) hs rfl rfl (Cell.blk 0 rfl rfl) (by kernel_rfl) ?_))) | ((with_reducible refine Se.isL (o := ⟨some 7, _, _, _, _, _⟩) ?_); (refine Se.toL rfl (Se.ld (o := ⟨some 7, _, _, _, _, _⟩) hs rfl rfl (Cell.blk 0 rfl rfl) (by kernel_rfl) ?_))) | ((with_reducible refine Se.isL (o := ⟨some 9, _, _, _, _, _⟩) ?_); (refine Se.toL rfl (Se.ld (o := ⟨some 9, _, _, _, _, _⟩) hs rfl rfl (Cell.blk 0 rfl rfl) (by kernel_rfl) ?_))) | ((with_reducible refine Se.isL (o := ⟨some 6, _, _, _, _, _⟩) ?_); (refine Se.toL rfl (Se.ld (o := ⟨some 6, _, _, _, _, _⟩) hs rfl rfl (Cell.blk 0 rfl rfl) (by kernel_rfl) ?_))) | ((with_reducible refine Se.isL (o := ⟨some 10, _, _, _, _, _⟩) ?_); (refine Se.toL rfl (Se.ld (o := ⟨some 10, _, _, _, _, _⟩) hs rfl rfl (Cell.blk 0 rfl rfl) (by kernel_rfl) ?_))) | ((first | with_reducible refine Se.ab hs ?_ | with_reducible refine Se.abc hs ?_); clear hs; (first | (generalize w.heap.size = g2; intro w hs))))
   go_ret
   exact ⟨rfl, hs.drop⟩
 ·have h3' : decide ((3 : Int) < (k : Int)) = false := by simp; omega
  obtain rfl : n = 0 := by rw [← hn]; unfold hsum; rw [if_neg (by omega)]
  clear hn h3
  go_enter Try.func37, Try.ntmps37
  go_wp2_with (first | ((first | with_reducible refine Se.ab hs ?_ | with_reducible refine Se.abc hs ?_); clear hs; (first | (generalize w.heap.size = g2; intro w hs))))
  go_ret
  exact ⟨rfl, hs.drop⟩
end Pd
end Go.Proofs.Ytdngfcmakjlamaa
/- Layer 35: the reference's data offset, numbers and joins. No condition but a valid framing. -/
namespace Go.Proofs.Ytdngfcmakjlamaa
open Go Go.RowKit
namespace Pd
open Se (St At Reads Cell)
open Li (v8 v8_one Rd Blk Fr)
open Bv (n8 n16 n32 n64)
variable {w0 w : World} {X : List Nat} {L : List At} {h : Hd} {EA DA : Option Addr} {en ec dn dc : Nat}
attribute [local irreducible] Calls
set_option maxRecDepth 100000 in
set_option maxHeartbeats 4000000 in
theorem rDataSum_st (hs : St w0 X L w) (k : Nat) (f : Fm) (data : Bool) {n : Nat} (hn : dsum k f data = n) : Calls Try.prog 38 #[iv k, fv f, .bool data] w fun e w' => e = .returned (iv n) ∧ St w0 X L w' := by
 obtain ⟨hd, dd, al⟩ := f
 unfold fv
 dsimp only
 by_cases h3 : 3 < k
 ·have h3' : (3 : Int) < (k : Int) := by omega
  have en : n = if dd = true ∧ data = true then 4 else 0 := by rw [← hn]; unfold dsum; simp [h3]
  clear hn h3
  cases dd <;> cases data <;> simp only [Bool.false_eq_true, if_true, if_false, and_true, and_false, and_self, true_and, false_and] at en <;> subst en
  all_goals
   go_enter Try.func38, Try.ntmps38
   go_wp2_with (first | ((with_reducible refine Se.isL (o := ⟨some 11, _, _, _, _, _⟩) ?_); (refine Se.toL rfl (Se.ld (o := ⟨some 11, _, _, _, _, _⟩) hs rfl rfl (Cell.blk 0 rfl rfl) (by kernel_rfl) ?_))) | ((first | with_reducible refine Se.ab hs ?_ | with_reducible refine Se.abc hs ?_); clear hs; (first | (generalize w.heap.size = g4; intro w hs))))
   go_ret
   exact ⟨rfl, hs.drop⟩
 ·have h3' : decide ((3 : Int) < (k : Int)) = false := by simp; omega
  obtain rfl : n = 0 := by rw [← hn]; unfold dsum; rw [if_neg (by omega)]
  clear hn h3
  go_enter Try.func38, Try.ntmps38
  go_wp2_with (first | ((first | with_reducible refine Se.ab hs ?_ | with_reducible refine Se.abc hs ?_); clear hs; (first | (generalize w.heap.size = g4; intro w hs))))
  go_ret
  exact ⟨rfl, hs.drop⟩
theorem rHeader_any (w : World) (k : Nat) (hk : k < 256) {n : Nat} (hn : hdr k = n) : Calls Try.prog 31 #[iv k] w fun e w' => e = .returned (iv n) ∧ Below w.heap.size w w' :=
 (rHeader_st (St.start (L := []) w (by simp) rfl) k hk hn).mono fun _ _ ⟨h1, h2⟩ => ⟨h1, h2.below⟩
theorem rHeaderSum_any (w : World) (k : Nat) (f : Fm) {n : Nat} (hn : hsum k f = n) : Calls Try.prog 37 #[iv k, fv f] w fun e w' => e = .returned (iv n) ∧ Below w.heap.size w w' :=
 (rHeaderSum_st (St.start (L := []) w (by simp) rfl) k f hn).mono fun _ _ ⟨h1, h2⟩ => ⟨h1, h2.below⟩
theorem ceil_eq {T u j : Nat} (hu : 1 ≤ u) (h1 : j * u < T + u) (h2 : T ≤ j * u) : (T + u - 1) / u * u = j * u := by
 congr 1
 refine Nat.div_eq_of_lt_le (by omega) ?_
 rw [Nat.add_mul]; omega
set_option maxRecDepth 100000 in
set_option maxHeartbeats 4000000 in
theorem rStart_st (hs : St w0 X L w) (k : Nat) (hk : k < 256) {f : Fm} (hf : framed f = true) {n : Nat} (hn : start k f = n) : Calls Try.prog 39 #[iv k, fv f] w fun e w' => e = .returned (iv n) ∧ St w0 X L w' := by
 have hal := framed_al hf
 obtain ⟨s, hh⟩ : ∃ s, s = hsum k f := ⟨_, rfl⟩
 obtain ⟨q, hq⟩ : ∃ q, q = hdr k := ⟨_, rfl⟩
 obtain ⟨u, hu⟩ : ∃ u, u = unit k f := ⟨_, rfl⟩
 have hul : 1 ≤ u ∧ u ≤ 128 := by rw [hu]; unfold unit; split <;> omega
 have hql : q ≤ 128 := by rw [hq]; exact hdr_le k
 have hsl : s ≤ 4 := by rw [hh]; exact hsum_le k f
 have HN : Hid (∀ j, j * u < q + s + u → q + s ≤ j * u → j * u = n) := Lib.hid (fun j h1 h2 => by rw [← hn, ← ceil_eq hul.1 h1 h2, hq, hh, hu]; rfl)
 have CH := Lib.hid (fun w => rHeader_any w k hk hq.symm)
 have CS := Lib.hid (fun w => rHeaderSum_any w k f hh.symm)
 have e1 := IntWalk.i64_in ((q : Int) + (s : Int)) (by omega)
 have hu0 : unit k f = u := hu.symm
 clear hn hq hh hu hf
 obtain ⟨hdb, ddb, al⟩ := f
 unfold fv at CS ⊢
 dsimp only at hal CS ⊢
 have b1 : IntKind.i64.wrap (al + 1) = al + 1 := IntWalk.i64_in _ (by omega)
 have b2 : IntKind.i64.wrap (4 * (al + 1)) = 4 * (al + 1) := IntWalk.i64_in _ (by omega)
 have hcu : (((3 : Int) < (k : Int)) ∧ 4 * (al + 1) = (u : Int)) ∨ (¬ ((3 : Int) < (k : Int)) ∧ u = 4) := by
  unfold unit at hu0
  dsimp only at hu0
  by_cases h3 : 3 < k
  ·left; rw [if_pos h3] at hu0; exact ⟨by omega, by omega⟩
  ·right; rw [if_neg h3] at hu0; exact ⟨by omega, hu0.symm⟩
 clear hu0
 rcases hcu with ⟨h3, hu⟩ | ⟨h3, rfl⟩
 ·go_enter Try.func39, Try.ntmps39
  go_upto_region 4 with (first | ((with_reducible refine Se.isL (o := ⟨some 10, _, _, _, _, _⟩) ?_); (refine Se.toL rfl (Se.ld (o := ⟨some 10, _, _, _, _, _⟩) hs rfl rfl (Cell.blk 0 rfl rfl) (by kernel_rfl) ?_))) | ((first | with_reducible refine Se.ab hs ?_ | with_reducible refine Se.abc hs ?_); clear hs; (first | (generalize w.heap.size = g3; intro w hs))))
  go_wp2_with fail
  go_loopg [6] (q + s + u) (fun gh s6 wr => ∃ j : Nat, gh = q + s + u - j * u ∧ j * u < q + s + u ∧ s6 = .int .i64 ((j * u : Nat) : Int) ∧ St w0 X (.blk g3 23 [.bool hdb, .bool ddb, .int .i64 al] :: L) wr)
  case atStart => exact ⟨0, by omega, by omega, by simp, hs⟩
  case round =>
   clear hs
   rename World => w
   obtain ⟨j, rfl, hj, rfl, hs⟩ := hrel
   obtain ⟨a, ha⟩ : ∃ a, a = j * u := ⟨_, rfl⟩
   have hs1 : (j + 1) * u = a + u := by rw [Nat.add_mul, ha]; try omega
   have HS1 := Lib.hid hs1
   have HA := Lib.hid ha
   rw [← ha] at hj ⊢
   have e2 := IntWalk.i64_in ((a : Int) + (u : Int)) (by omega)
   clear hs1 ha
   by_cases hlt : a < q + s
   ·have hlt' : (a : Int) < (q : Int) + (s : Int) := by omega
    go_wp2_with fail
    refine Hv.grow 8 (fun | 2 => some (Hv.con (iv q)) | 5 => some (Hv.con (iv s)) | _ => none) (fun _ => []) (by kernel_rfl) (by kernel_rfl) ?_ ?_
    ·intro i m hm v wa wb hR hv
     split at hm <;> first | cases hm | skip
     all_goals first | exact Hv.row_st hR hv | exact Hv.con_st hR hv | exact Nown_st hR hv | exact Nparts_st hR hv
    ·change Hv.HW _ _ _ _ _ _ _ [0, 1, 2, 3, 4, 5, 6, 7] _ _
     iterate 2 ((first | (refine Hv.pure (v := ?_) (by rfl) (by rfl) (by rfl) (fun wx hS => ?_) ?_; rotate_left; (focus (go_simp; (first | done | with_reducible rfl))))); (try simp only [Act.put, List.setIfInBounds_toArray, List.set_cons_zero, List.set_cons_succ]))
     refine Hv.noise (m := _) (by rfl) (by rfl) (by rfl) (Hv.con_ex _) (fun wx hS hf => ?_) (fun v hv => ?_)
     ·unfold Hv.Gives
      go_simp
      refine (CH.out _).mono ?_
      rintro e w' ⟨rfl, hb⟩
      exact ⟨_, rfl, hb, rfl, trivial⟩
     obtain rfl := hv
     (try simp only [Act.put, List.setIfInBounds_toArray, List.set_cons_zero, List.set_cons_succ])
     iterate 2 ((first | (refine Hv.pure (v := ?_) (by rfl) (by rfl) (by rfl) (fun wx hS => ?_) ?_; rotate_left; (focus (go_simp; (first | done | with_reducible rfl)))) | refine Hv.pure (v := _) (by rfl) (by rfl) (by rfl) (fun wx hS => Se.xla rfl rfl (Li.Rd.of_blk ((hs.ext hS).hold (.blk g3 23 _) List.mem_cons_self)) (by kernel_rfl) (by decide +kernel)) ?_); (try simp only [Act.put, List.setIfInBounds_toArray, List.set_cons_zero, List.set_cons_succ]))
     refine Hv.noise (m := _) (by rfl) (by rfl) (by rfl) (Hv.con_ex _) (fun wx hS hf => ?_) (fun v hv => ?_)
     ·unfold Hv.Gives
      go_simp
      refine (CS.out _).mono ?_
      rintro e w' ⟨rfl, hb⟩
      exact ⟨_, rfl, hb, rfl, trivial⟩
     obtain rfl := hv
     (try simp only [Act.put, List.setIfInBounds_toArray, List.set_cons_zero, List.set_cons_succ])
     iterate 2 ((first | (refine Hv.pure (v := ?_) (by rfl) (by rfl) (by rfl) (fun wx hS => ?_) ?_; rotate_left; (focus (go_simp; (first | done | with_reducible rfl))))); (try simp only [Act.put, List.setIfInBounds_toArray, List.set_cons_zero, List.set_cons_succ]))
     refine Hv.done (fun wx hS _ => ?_)
     replace hs := hs.ext hS
     clear hS
     simp only [List.drop_succ_cons, List.drop_nil]
     go_wp2_with fail
     go_roundg (q + s + u - (j + 1) * u)
     case measure => have := HS1.out; have := HA.out; omega
     case rel => exact ⟨j + 1, rfl, by have := HS1.out; omega, by rw [HS1.out]; simp, hs⟩
   ·have hlt' : decide ((a : Int) < (q : Int) + (s : Int)) = false := by simp; omega
    have hn2 := HN.out j (by rw [← HA.out]; exact hj) (by rw [← HA.out]; omega)
    rw [← HA.out] at hn2
    have HN2 := Lib.hid hn2
    clear hn2
    go_wp2_with fail
    refine Hv.grow 8 (fun | 2 => some (Hv.con (iv q)) | 5 => some (Hv.con (iv s)) | _ => none) (fun _ => []) (by kernel_rfl) (by kernel_rfl) ?_ ?_
    ·intro i m hm v wa wb hR hv
     split at hm <;> first | cases hm | skip
     all_goals first | exact Hv.row_st hR hv | exact Hv.con_st hR hv | exact Nown_st hR hv | exact Nparts_st hR hv
    ·change Hv.HW _ _ _ _ _ _ _ [0, 1, 2, 3, 4, 5, 6, 7] _ _
     iterate 2 ((first | (refine Hv.pure (v := ?_) (by rfl) (by rfl) (by rfl) (fun wx hS => ?_) ?_; rotate_left; (focus (go_simp; (first | done | with_reducible rfl))))); (try simp only [Act.put, List.setIfInBounds_toArray, List.set_cons_zero, List.set_cons_succ]))
     refine Hv.noise (m := _) (by rfl) (by rfl) (by rfl) (Hv.con_ex _) (fun wx hS hf => ?_) (fun v hv => ?_)
     ·unfold Hv.Gives
      go_simp
      refine (CH.out _).mono ?_
      rintro e w' ⟨rfl, hb⟩
      exact ⟨_, rfl, hb, rfl, trivial⟩
     obtain rfl := hv
     (try simp only [Act.put, List.setIfInBounds_toArray, List.set_cons_zero, List.set_cons_succ])
     iterate 2 ((first | (refine Hv.pure (v := ?_) (by rfl) (by rfl) (by rfl) (fun wx hS => ?_) ?_; rotate_left; (focus (go_simp; (first | done | with_reducible rfl)))) | refine Hv.pure (v := _) (by rfl) (by rfl) (by rfl) (fun wx hS => Se.xla rfl rfl (Li.Rd.of_blk ((hs.ext hS).hold (.blk g3 23 _) List.mem_cons_self)) (by kernel_rfl) (by decide +kernel)) ?_); (try simp only [Act.put, List.setIfInBounds_toArray, List.set_cons_zero, List.set_cons_succ]))
     refine Hv.noise (m := _) (by rfl) (by rfl) (by rfl) (Hv.con_ex _) (fun wx hS hf => ?_) (fun v hv => ?_)
     ·unfold Hv.Gives
      go_simp
      refine (CS.out _).mono ?_
      rintro e w' ⟨rfl, hb⟩
      exact ⟨_, rfl, hb, rfl, trivial⟩
     obtain rfl := hv
     (try simp only [Act.put, List.setIfInBounds_toArray, List.set_cons_zero, List.set_cons_succ])
     iterate 2 ((first | (refine Hv.pure (v := ?_) (by rfl) (by rfl) (by rfl) (fun wx hS => ?_) ?_; rotate_left; (focus (go_simp; (first | done | with_reducible rfl))))); (try simp only [Act.put, List.setIfInBounds_toArray, List.set_cons_zero, List.set_cons_succ]))
     refine Hv.done (fun wx hS _ => ?_)
     replace hs := hs.ext hS
     clear hS
     simp only [List.drop_succ_cons, List.drop_nil]
     go_wp2_with fail
     go_ret
     exact ⟨by rw [← HN2.out]; rfl, hs.drop⟩
 ·go_enter Try.func39, Try.ntmps39
  go_upto_region 4 with (first | ((first | with_reducible refine Se.ab hs ?_ | with_reducible refine Se.abc hs ?_); clear hs; (first | (generalize w.heap.size = g3; intro w hs))))
  go_wp2_with fail
  go_loopg [6] (q + s + 4) (fun gh s6 wr => ∃ j : Nat, gh = q + s + 4 - j * 4 ∧ j * 4 < q + s + 4 ∧ s6 = .int .i64 ((j * 4 : Nat) : Int) ∧ St w0 X (.blk g3 23 [.bool hdb, .bool ddb, .int .i64 al] :: L) wr)
  case atStart => exact ⟨0, by omega, by omega, by simp, hs⟩
  case round =>
   clear hs
   rename World => w
   obtain ⟨j, rfl, hj, rfl, hs⟩ := hrel
   obtain ⟨a, ha⟩ : ∃ a, a = j * 4 := ⟨_, rfl⟩
   have hs1 : (j + 1) * 4 = a + 4 := by rw [Nat.add_mul, ha]; try omega
   have HS1 := Lib.hid hs1
   have HA := Lib.hid ha
   rw [← ha] at hj ⊢
   have e2 := IntWalk.i64_in ((a : Int) + 4) (by omega)
   clear hs1 ha
   by_cases hlt : a < q + s
   ·have hlt' : (a : Int) < (q : Int) + (s : Int) := by omega
    go_wp2_with fail
    refine Hv.grow 8 (fun | 2 => some (Hv.con (iv q)) | 5 => some (Hv.con (iv s)) | _ => none) (fun _ => []) (by kernel_rfl) (by kernel_rfl) ?_ ?_
    ·intro i m hm v wa wb hR hv
     split at hm <;> first | cases hm | skip
     all_goals first | exact Hv.row_st hR hv | exact Hv.con_st hR hv | exact Nown_st hR hv | exact Nparts_st hR hv
    ·change Hv.HW _ _ _ _ _ _ _ [0, 1, 2, 3, 4, 5, 6, 7] _ _
     iterate 2 ((first | (refine Hv.pure (v := ?_) (by rfl) (by rfl) (by rfl) (fun wx hS => ?_) ?_; rotate_left; (focus (go_simp; (first | done | with_reducible rfl))))); (try simp only [Act.put, List.setIfInBounds_toArray, List.set_cons_zero, List.set_cons_succ]))
     refine Hv.noise (m := _) (by rfl) (by rfl) (by rfl) (Hv.con_ex _) (fun wx hS hf => ?_) (fun v hv => ?_)
     ·unfold Hv.Gives
      go_simp
      refine (CH.out _).mono ?_
      rintro e w' ⟨rfl, hb⟩
      exact ⟨_, rfl, hb, rfl, trivial⟩
     obtain rfl := hv
     (try simp only [Act.put, List.setIfInBounds_toArray, List.set_cons_zero, List.set_cons_succ])
     iterate 2 ((first | (refine Hv.pure (v := ?_) (by rfl) (by rfl) (by rfl) (fun wx hS => ?_) ?_; rotate_left; (focus (go_simp; (first | done | with_reducible rfl)))) | refine Hv.pure (v := _) (by rfl) (by rfl) (by rfl) (fun wx hS => Se.xla rfl rfl (Li.Rd.of_blk ((hs.ext hS).hold (.blk g3 23 _) List.mem_cons_self)) (by kernel_rfl) (by decide +kernel)) ?_); (try simp only [Act.put, List.setIfInBounds_toArray, List.set_cons_zero, List.set_cons_succ]))
     refine Hv.noise (m := _) (by rfl) (by rfl) (by rfl) (Hv.con_ex _) (fun wx hS hf => ?_) (fun v hv => ?_)
     ·unfold Hv.Gives
      go_simp
      refine (CS.out _).mono ?_
      rintro e w' ⟨rfl, hb⟩
      exact ⟨_, rfl, hb, rfl, trivial⟩
     obtain rfl := hv
     (try simp only [Act.put, List.setIfInBounds_toArray, List.set_cons_zero, List.set_cons_succ])
     iterate 2 ((first | (refine Hv.pure (v := ?_) (by rfl) (by rfl) (by rfl) (fun wx hS => ?_) ?_; rotate_left; (focus (go_simp; (first | done | with_reducible rfl))))); (try simp only [Act.put, List.setIfInBounds_toArray, List.set_cons_zero, List.set_cons_succ]))
     refine Hv.done (fun wx hS _ => ?_)
     replace hs := hs.ext hS
     clear hS
     simp only [List.drop_succ_cons, List.drop_nil]
     go_wp2_with fail
     go_roundg (q + s + 4 - (j + 1) * 4)
     case measure => have := HS1.out; have := HA.out; omega
     case rel => exact ⟨j + 1, rfl, by have := HS1.out; omega, by rw [HS1.out]; simp, hs⟩
   ·have hlt' : decide ((a : Int) < (q : Int) + (s : Int)) = false := by simp; omega
    have hn2 := HN.out j (by rw [← HA.out]; exact hj) (by rw [← HA.out]; omega)
    rw [← HA.out] at hn2
    have HN2 := Lib.hid hn2
    clear hn2
    go_wp2_with fail
    refine Hv.grow 8 (fun | 2 => some (Hv.con (iv q)) | 5 => some (Hv.con (iv s)) | _ => none) (fun _ => []) (by kernel_rfl) (by kernel_rfl) ?_ ?_
    ·intro i m hm v wa wb hR hv
     split at hm <;> first | cases hm | skip
     all_goals first | exact Hv.row_st hR hv | exact Hv.con_st hR hv | exact Nown_st hR hv | exact Nparts_st hR hv
    ·change Hv.HW _ _ _ _ _ _ _ [0, 1, 2, 3, 4, 5, 6, 7] _ _
     iterate 2 ((first | (refine Hv.pure (v := ?_) (by rfl) (by rfl) (by rfl) (fun wx hS => ?_) ?_; rotate_left; (focus (go_simp; (first | done | with_reducible rfl))))); (try simp only [Act.put, List.setIfInBounds_toArray, List.set_cons_zero, List.set_cons_succ]))
     refine Hv.noise (m := _) (by rfl) (by rfl) (by rfl) (Hv.con_ex _) (fun wx hS hf => ?_) (fun v hv => ?_)
     ·unfold Hv.Gives
      go_simp
      refine (CH.out _).mono ?_
      rintro e w' ⟨rfl, hb⟩
      exact ⟨_, rfl, hb, rfl, trivial⟩
     obtain rfl := hv
     (try simp only [Act.put, List.setIfInBounds_toArray, List.set_cons_zero, List.set_cons_succ])
     iterate 2 ((first | (refine Hv.pure (v := ?_) (by rfl) (by rfl) (by rfl) (fun wx hS => ?_) ?_; rotate_left; (focus (go_simp; (first | done | with_reducible rfl)))) | refine Hv.pure (v := _) (by rfl) (by rfl) (by rfl) (fun wx hS => Se.xla rfl rfl (Li.Rd.of_blk ((hs.ext hS).hold (.blk g3 23 _) List.mem_cons_self)) (by kernel_rfl) (by decide +kernel)) ?_); (try simp only [Act.put, List.setIfInBounds_toArray, List.set_cons_zero, List.set_cons_succ]))
     refine Hv.noise (m := _) (by rfl) (by rfl) (by rfl) (Hv.con_ex _) (fun wx hS hf => ?_) (fun v hv => ?_)
     ·unfold Hv.Gives
      go_simp
      refine (CS.out _).mono ?_
      rintro e w' ⟨rfl, hb⟩
      exact ⟨_, rfl, hb, rfl, trivial⟩
     obtain rfl := hv
     (try simp only [Act.put, List.setIfInBounds_toArray, List.set_cons_zero, List.set_cons_succ])
     iterate 2 ((first | (refine Hv.pure (v := ?_) (by rfl) (by rfl) (by rfl) (fun wx hS => ?_) ?_; rotate_left; (focus (go_simp; (first | done | with_reducible rfl))))); (try simp only [Act.put, List.setIfInBounds_toArray, List.set_cons_zero, List.set_cons_succ]))
     refine Hv.done (fun wx hS _ => ?_)
     replace hs := hs.ext hS
     clear hS
     simp only [List.drop_succ_cons, List.drop_nil]
     go_wp2_with fail
     go_ret
     exact ⟨by rw [← HN2.out]; rfl, hs.drop⟩
section
attribute [local go_sem] Bv.wrap_n8_of
set_option maxRecDepth 100000 in
set_option maxHeartbeats 4000000 in
theorem rLittle_st (hs : St w0 X L w) (v : BitVec 32) (n : Nat) (hn : n ≤ 4) :
  Calls Try.prog 41 #[.int .u32 (n32 v), .int .i64 n] w fun e w' => ∃ r B c, e = .returned (.slice B n c) ∧ St w0 X (.own 1 r B n c ((numL v n).map v8) :: L) w' := by
 obtain ⟨m, hm⟩ : ∃ m, m = v.toNat := ⟨_, rfl⟩
 have hmv : n32 v = (m : Int) := by rw [hm]; rfl
 have hml : m < 4294967296 := by rw [hm]; exact v.isLt
 have HV := Lib.hid (show ∀ i, numL v i = numN i m by intro i; rw [hm]; rfl)
 rw [hmv]
 clear hm hmv
 replace hs := hs.nil_own 1 none
 go_enter Try.func41, Try.ntmps41
 go_wp2_with fail
 go_loopg [0, 5, 6] n (fun gh s0 s5 s6 wr => ∃ (i q : Nat) (r : Option Nat) (B : Option Addr) (c' : Nat), gh = n - i ∧ i ≤ n ∧ s6 = .int .i64 i ∧ s5 = .slice B i c' ∧ s0 = .int .u32 (q : Int) ∧ q < 4294967296 ∧ Hid (q = m / 256 ^ i) ∧ St w0 X (.own 1 r B i c' ((numN i m).map v8) :: L) wr)
 case atStart => exact ⟨0, m, none, none, 0, rfl, by omega, rfl, rfl, rfl, hml, Lib.hid (by simp), hs⟩
 case round =>
  clear hs
  rename World => w
  obtain ⟨i, q, r, B, c', rfl, hi, rfl, rfl, rfl, hq, HQ, hs⟩ := hrel
  by_cases hlt : i < n
  ·have hlt' : (i : Int) < (n : Int) := by omega
   have q1 : ((q : Int)).tdiv 256 = ((q / 256 : Nat) : Int) := by rw [Int.tdiv_eq_ediv_of_nonneg (by omega)]; omega
   have q2 : ((q : Int)).tmod 256 = ((q % 256 : Nat) : Int) := by rw [Int.tmod_eq_emod_of_nonneg (by omega)]; omega
   have ST : Hid ((numN (i + 1) m).map v8 = (numN i m).map v8 ++ [.int .u8 (n8 (BitVec.ofInt 8 ((q % 256 : Nat) : Int)))]) := Lib.hid (by
    have e : BitVec.ofInt 8 ((q % 256 : Nat) : Int) = BitVec.ofNat 8 (m / 256 ^ i) := by
     rw [← HQ.out]
     apply BitVec.eq_of_toNat_eq
     rw [BitVec.toNat_ofInt, BitVec.toNat_ofNat]
     omega
    rw [numN_snoc, List.map_append, e]; rfl)
   have HQ2 : Hid (q / 256 = m / 256 ^ (i + 1)) := Lib.hid (by rw [HQ.out, Nat.div_div_eq_div_mul, Nat.pow_succ])
   go_wp2_with (first | ((with_reducible refine Se.isL (o := ⟨some 16, _, _, _, _, _⟩) ?_); (refine Se.toL rfl (Se.bsv (o := ⟨some 16, _, _, _, _, _⟩) hs rfl Try.underlying24 u8i rfl ([.int .u8 _]) (by rfl) (by rfl) (by decide) (by decide) (by simp [Value.oneCell']) ?_); clear hs; rintro w g16 - hs)) | ((with_reducible refine Se.isL (o := ⟨some 17, _, _, _, _, _⟩) ?_); (refine Se.toL rfl (Se.ap (o := ⟨some 17, _, _, _, _, _⟩) 1 hs rfl rfl rfl rfl ((Reads.blk 0 rfl)) Try.underlying24 u8i3 rfl (by decide) ((by simp [Value.oneCell'])) (rfl) ((by omega)) ((by omega)) ?_); clear hs; rintro w r' B' c'' hs; try simp only [List.cons_append, List.nil_append, List.set_cons_zero, List.set_cons_succ] at hs)))
   go_roundg (n - (i + 1))
   case measure => omega
   case rel => exact ⟨i + 1, q / 256, r', B', c'', rfl, by omega, by go_num, rfl, rfl, by omega, HQ2, by rw [ST.out]; exact hs.drop⟩
  ·obtain rfl : i = n := by omega
   go_wp2_with fail
   go_ret
   rw [HV.out]
   exact ⟨r, B, c', rfl, hs⟩
end
set_option maxRecDepth 100000 in
set_option maxHeartbeats 4000000 in
theorem rjoin_st (hs : St w0 X L w) (l : List Pt) {S : Option Addr} {k cap : Nat} (hk : k = l.length) (hS : Reads L S (l.map Pt.v)) (hp : ∀ p ∈ l, Reads L p.A (p.bs.map v8)) {bs : List (BitVec 8)} (hb : flat l = bs) {q : Nat} (hq : q = bs.length) (hle : q ≤ 70368744177664) (hkl : k ≤ 1000) :
  Calls Try.prog 40 #[.slice S k cap] w fun e w' => ∃ r B c', e = .returned (.slice B q c') ∧ St w0 X (.own 1 r B q c' (bs.map v8) :: L) w' := by
 have HK := Lib.hid hk
 have HP := Lib.hid hp
 subst hb hq
 obtain ⟨F, hF⟩ : ∃ F : Nat → List (BitVec 8), F = fun i => flat (l.take i) := ⟨_, rfl⟩
 have F0 := Lib.hid (show F 0 = [] by rw [hF]; simp [flat])
 have FK := Lib.hid (show F k = flat l by rw [hF, hk]; simp)
 have FL := Lib.hid (show ∀ i, (F i).length ≤ 70368744177664 by intro i; rw [hF]; exact Nat.le_trans (flat_le l i) hle)
 have FS := Lib.hid (show ∀ i (h : i < l.length), F (i + 1) = F i ++ l[i].bs by intro i h; rw [hF]; exact flat_snoc l i h)
 clear hk hp hF hle
 replace hs := hs.nil_own 1 none
 go_enter Try.func40, Try.ntmps40
 go_wp2_with fail
 go_loopg [3, 4] k (fun gh s3 s4 wr => ∃ (j : Nat) (r : Option Nat) (B : Option Addr) (c' m : Nat), gh = k - j ∧ j ≤ k ∧ s4 = .int .i64 j ∧ s3 = .slice B m c' ∧ Hid (m = (F j).length) ∧ St w0 X (.own 1 r B m c' ((F j).map v8) :: L) wr)
 case atStart => exact ⟨0, none, none, 0, 0, rfl, by omega, rfl, rfl, Lib.hid (by rw [F0.out]; rfl), by rw [F0.out]; exact hs⟩
 case round =>
  clear hs
  rename World => w
  obtain ⟨j, r, B, c', m, rfl, hj, rfl, rfl, HM, hs⟩ := hrel
  by_cases hlt : j < k
  ·have hlt' : (j : Int) < (k : Int) := by omega
   have hil : j < l.length := by have := HK.out; omega
   obtain ⟨p, hpe⟩ : ∃ p, p = l[j] := ⟨_, rfl⟩
   have hb : (l.map Pt.v)[j]? = some (.slice p.A p.bs.length p.c) := by rw [hpe]; simp [hil]; rfl
   have hrp := Lib.hid (HP.out p (by rw [hpe]; exact List.getElem_mem hil))
   have FS1 := FS.out j hil
   have FL1 := FL.out (j + 1)
   rw [← hpe] at FS1
   rw [FS1, List.length_append, ← HM.out] at FL1
   have FM : Hid (m + p.bs.length = (F (j + 1)).length) := Lib.hid (by rw [FS1, List.length_append, HM.out])
   obtain ⟨g, off, rfl⟩ : ∃ g off, S = some ⟨g, off, none⟩ := by
    obtain ⟨g, off, h, _⟩ := (hS w (fun a ha => hs.hold a (List.mem_cons_of_mem _ ha))).cells (by intro e; rw [e] at hb; simp at hb)
    exact ⟨g, off, h⟩
   have HB := Lib.hid hb
   have FS1 := Lib.hid FS1
   clear hb hpe hil
   go_wp2_with (first | ((with_reducible refine Se.isL (o := ⟨some 15, _, _, _, _, _⟩) ?_); (refine Se.toL rfl (Se.ld (o := ⟨some 15, _, _, _, _, _⟩) hs rfl rfl ((hS.cons _).cell j HB.out) (by kernel_rfl) ?_))) | ((with_reducible refine Se.isL (o := ⟨some 16, _, _, _, _, _⟩) ?_); (refine Se.toL rfl (Se.ap (o := ⟨some 16, _, _, _, _, _⟩) 0 hs rfl rfl rfl rfl ((hrp.out.cons _)) Try.underlying24 u8i3 rfl (by decide) ((v8_one _)) ((by rw [List.length_map, Nat.mul_one])) ((by omega)) ((by omega)) ?_); clear hs; rintro w r' B' c'' hs; try simp only [List.cons_append, List.nil_append, List.set_cons_zero] at hs)))
   go_roundg (k - (j + 1))
   case measure => omega
   case rel => exact ⟨j + 1, r', B', c'', m + p.bs.length, rfl, by omega, by go_num, rfl, FM, by rw [FS1.out, List.map_append]; exact hs⟩
  ·obtain rfl : j = k := by omega
   go_wp2_with fail
   go_ret
   rw [FK.out] at hs
   rw [← FK.out, ← HM.out]
   exact ⟨r, B, c', rfl, by rw [FK.out]; exact hs⟩
set_option maxRecDepth 100000 in
set_option maxHeartbeats 4000000 in
theorem rzeros_any (w : World) (bs : List (BitVec 8)) {A : Option Addr} {n c : Nat} (hn : n = bs.length) (hA : Rd w A (bs.map v8)) (hle : n ≤ 70368744177664) {b : Bool} (hb : zeros bs = b) :
  Calls Try.prog 96 #[.slice A n c] w fun e w' => e = .returned (.bool b) ∧ w' = w := by
 have HN := Lib.hid hn
 have HA := Lib.hid hA
 have HB := Lib.hid hb
 clear hn hA hb
 go_enter Try.func96, Try.ntmps96
 go_wp2
 go_loopg [3] n (fun gh s3 wr => ∃ i : Nat, gh = n - i ∧ i ≤ n ∧ s3 = .int .i64 i ∧ Hid (zeros (bs.take i) = true) ∧ wr = w)
 case atStart => exact ⟨0, rfl, by omega, rfl, Lib.hid rfl, rfl⟩
 case round =>
  obtain ⟨i, rfl, hi, rfl, HT, rfl⟩ := hrel
  by_cases hlt : i < n
  ·have hlt' : (i : Int) < (n : Int) := by omega
   have hx : i < bs.length := by have := HN.out; omega
   obtain ⟨ga, oa, rfl, hca⟩ := Rd_cell HA.out i (v8_at bs i hx)
   obtain ⟨x, hxe⟩ : ∃ x, x = bs.getD i 0#8 := ⟨_, rfl⟩
   rw [← hxe] at hca
   have ex : bs[i] = x := by rw [hxe]; simp [hx]
   by_cases h0 : x = 0#8
   ·have hv : (n8 x != 0) = false := by rw [n8_ne, h0]; rfl
    have HT2 : Hid (zeros (bs.take (i + 1)) = true) := Lib.hid (by rw [List.take_succ_eq_append_getElem hx]; have := HT.out; unfold zeros at this ⊢; rw [List.all_append, this, ex, h0]; rfl)
    clear hx ex hxe h0
    go_wp2
    go_roundg (n - (i + 1))
    case measure => omega
    case rel => exact ⟨i + 1, rfl, by omega, by go_num, HT2, rfl⟩
   ·have hv : (n8 x != 0) = true := by rw [n8_ne]; simpa using h0
    have HZ : b = false := by
     rw [← HB.out]
     unfold zeros
     rw [← Bool.not_eq_true, List.all_eq_true]
     intro h
     have := h bs[i] (List.getElem_mem hx)
     rw [ex] at this
     exact h0 (by simpa using this)
    subst HZ
    clear hx ex hxe h0
    go_wp2
    go_ret
    exact ⟨rfl, rfl⟩
  ·obtain rfl : i = n := by omega
   have HZ : b = true := by have := HT.out; rw [List.take_of_length_le (by rw [← HN.out]; exact Nat.le_refl _), HB.out] at this; exact this
   subst HZ
   go_wp2
   go_ret
   exact ⟨rfl, rfl⟩
end Pd
end Go.Proofs.Ytdngfcmakjlamaa
/- Layer 35: the reference's only. No condition. -/
namespace Go.Proofs.Ytdngfcmakjlamaa
open Go Go.RowKit
namespace Pd
open Se (St At Reads Cell)
open Li (v8 v8_one Rd Blk Fr)
open Bv (n8 n16 n32 n64)
variable {w0 w : World} {X : List Nat} {L : List At}
attribute [local irreducible] Calls
attribute [local go_sem] Gd.mv_true Gd.pk_or Gd.pk_and Gd.pk_true Gd.pk_false
/-! 'only' in the order of the reference's text -/
def only1 (p : PDU) : Bool := p.h.la && !((p.h.k.toNat : Int) == 6 || (p.h.k.toNat : Int) == 7) || p.h.su && ((p.h.k.toNat : Int) != 7 || !p.h.la) || decide (0 < p.en.length) && (p.h.k.toNat : Int) != 4 && (p.h.k.toNat : Int) != 5
def only2 (p : PDU) : Bool := n16 p.h.id != 0 && !((p.h.k.toNat : Int) == 6 || (p.h.k.toNat : Int) == 7) && (p.h.k.toNat : Int) != 9 || n16 p.h.tg != 0 && (p.h.k.toNat : Int) != 6 && (p.h.k.toNat : Int) != 9 || n32 p.h.of != 0 && !((p.h.k.toNat : Int) == 6 || (p.h.k.toNat : Int) == 7) && (p.h.k.toNat : Int) != 9 || n32 p.h.ln != 0 && (p.h.k.toNat : Int) != 9
def only3 (p : PDU) : Bool := (n8 p.h.al == 0 && n8 p.h.dg == 0 && n32 p.h.mx == 0 || decide ((p.h.k.toNat : Int) < 2)) && (n16 p.h.st == 0 && n32 p.h.nf == 0 || (p.h.k.toNat : Int) == 2 || (p.h.k.toNat : Int) == 3)
theorem n8_0 (x : BitVec 8) : (n8 x == 0) = decide (x = 0#8) := by
 unfold n8; rw [Bool.eq_iff_iff]; simp only [beq_iff_eq, decide_eq_true_eq]
 exact ⟨fun h => BitVec.eq_of_toNat_eq (by simpa using h), fun h => by subst h; rfl⟩
theorem n16_0 (x : BitVec 16) : (n16 x == 0) = decide (x = 0#16) := by
 unfold n16; rw [Bool.eq_iff_iff]; simp only [beq_iff_eq, decide_eq_true_eq]
 exact ⟨fun h => BitVec.eq_of_toNat_eq (by simpa using h), fun h => by subst h; rfl⟩
theorem n32_0 (x : BitVec 32) : (n32 x == 0) = decide (x = 0#32) := by
 unfold n32; rw [Bool.eq_iff_iff]; simp only [beq_iff_eq, decide_eq_true_eq]
 exact ⟨fun h => BitVec.eq_of_toNat_eq (by simpa using h), fun h => by subst h; rfl⟩
theorem only_eq (p : PDU) : only p = (!only1 p && !only2 p && only3 p) := by
 unfold only only1 only2 only3
 simp only [bne, n8_0, n16_0, n32_0]
 have e : ∀ m : Nat, ((p.h.k.toNat : Int) == (m : Int)) = decide (p.h.k.toNat = m) := fun m => by rw [Bool.eq_iff_iff]; simp; omega
 have e2 := e 2; have e3 := e 3; have e4 := e 4; have e5 := e 5; have e6 := e 6; have e7 := e 7; have e9 := e 9
 simp only [Int.cast_ofNat_Int] at e2 e3 e4 e5 e6 e7 e9
 have l2 : decide ((p.h.k.toNat : Int) < 2) = decide (p.h.k.toNat < 2) := by simp only [decide_eq_decide]; omega
 have l0 : decide (0 < p.en.length) = decide (p.en ≠ []) := by
  simp only [decide_eq_decide]; cases p.en <;> simp
 rw [e2, e3, e4, e5, e6, e7, e9, l2, l0]
 generalize p.h.k.toNat = k
 generalize p.h.la = la
 generalize p.h.su = su
 rw [Bool.eq_iff_iff]
 simp only [Bool.and_eq_true, decide_eq_true_eq, Bool.or_eq_true, Bool.not_eq_true', Bool.or_eq_false_iff, Bool.and_eq_false_iff, decide_eq_false_iff_not, Bool.not_eq_false']
 grind
set_option maxRecDepth 100000 in
set_option maxHeartbeats 4000000 in
theorem ronly_st (hs : St w0 X L w) (p : PDU) {EA DA : Option Addr} {en ec dn dc : Nat} (he : en = p.en.length) :
  Calls Try.prog 33 #[.agg (pc p.h EA en ec DA dn dc).toArray] w fun e w' => e = .returned (.bool (only p)) ∧ St w0 X L w' := by
 obtain ⟨PL, hP⟩ : ∃ PL, PL = pc p.h EA en ec DA dn dc := ⟨_, rfl⟩
 obtain ⟨k, hk⟩ : ∃ k, k = p.h.k.toNat := ⟨_, rfl⟩
 have hkl : k < 256 := by rw [hk]; exact p.h.k.isLt
 have wk : IntKind.i64.wrap (k : Int) = k := IntWalk.i64_in _ (by omega)
 have P0 := Lib.hid (show PL[0]? = some (.int .u8 (k : Int)) by rw [hP, hk]; rfl)
 have P1 := Lib.hid (show PL[1]? = some (.bool p.h.la) by rw [hP]; rfl)
 have P2 := Lib.hid (show PL[2]? = some (.bool p.h.su) by rw [hP]; rfl)
 have P3 := Lib.hid (show PL[3]? = some (.slice EA en ec) by rw [hP]; rfl)
 have P4 := Lib.hid (show PL[4]? = some (.int .u16 (n16 p.h.id)) by rw [hP]; rfl)
 have P5 := Lib.hid (show PL[5]? = some (.int .u16 (n16 p.h.tg)) by rw [hP]; rfl)
 have P6 := Lib.hid (show PL[6]? = some (.int .u32 (n32 p.h.of)) by rw [hP]; rfl)
 have P7 := Lib.hid (show PL[7]? = some (.int .u32 (n32 p.h.ln)) by rw [hP]; rfl)
 have P8 := Lib.hid (show PL[8]? = some (.int .u8 (n8 p.h.al)) by rw [hP]; rfl)
 have P9 := Lib.hid (show PL[9]? = some (.int .u8 (n8 p.h.dg)) by rw [hP]; rfl)
 have P10 := Lib.hid (show PL[10]? = some (.int .u32 (n32 p.h.mx)) by rw [hP]; rfl)
 have P11 := Lib.hid (show PL[11]? = some (.int .u16 (n16 p.h.st)) by rw [hP]; rfl)
 have P12 := Lib.hid (show PL[12]? = some (.int .u32 (n32 p.h.nf)) by rw [hP]; rfl)
 rw [← hP]
 have HE := Lib.hid he
 have HK := Lib.hid hk
 clear hP he hk hkl
 go_enter Try.func33, Try.ntmps33
 go_upto_region 2 with (first | ((with_reducible refine Se.isL (o := ⟨some 6, _, _, _, _, _⟩) ?_); (refine Se.toL rfl (Se.ld (o := ⟨some 6, _, _, _, _, _⟩) hs rfl rfl (Cell.blk 0 rfl P0.out) (by kernel_rfl) ?_))) | ((first | with_reducible refine Se.ab hs ?_ | with_reducible refine Se.abc hs ?_); clear hs; (first | (generalize w.heap.size = g1; intro w hs))))
 refine Gd.plain 7 (fun wx => Blk wx g1 PL 41) (fun  | _ => false) rfl (hs.hold (.blk g1 41 PL) (by simp)) ?_
 change Ch.CW _ _ _ _ _ [0, 1, 2, 3, 4, 5, 6] _ _
 iterate 7 (refine Gd.look (by rfl) ?_; (first | ((with_reducible refine Gd.isPick0 ?_); refine Gd.qpick (b := _) (v := ?_) (e := ?_) (by rfl) (by rfl) (by rfl) (by rfl) ?_ ?_ ?_; rotate_left 2; (focus (go_simp; (first | done | with_reducible rfl))); (focus (with_reducible rfl)); (intro _ _)) | ((with_reducible refine Gd.isPick1 ?_); refine Gd.gpick (b := ?_) (v := ?_) (e := ?_) (by rfl) (by rfl) (by first | exact Gd.want_t rfl rfl rfl | exact Gd.want_f rfl rfl rfl | exact Gd.want_mt rfl rfl rfl | exact Gd.want_mf rfl rfl rfl) ?_ ?_ ?_; rotate_left 3; (focus ((intro hb; have hb0 := hb; (try simp only [Bool.and_eq_true] at hb)); refine ⟨?_, ?_⟩ <;> (go_simp; (first | done | with_reducible rfl)))); (focus (with_reducible rfl)); (intro _ _)) | ((with_reducible refine Gd.isBin0 (ty := 4) ?_); refine Gd.qb (v := ?_) (e := ?_) (by rfl) (by rfl) (fun wx hS => ?_) ?_ ?_; rotate_left 2; (focus (go_simp; (first | done | with_reducible rfl))); (focus (with_reducible rfl)); (intro _ _)) | ((with_reducible refine Gd.isUn0 (ty := 4) ?_); refine Gd.qb (v := ?_) (e := ?_) (by rfl) (by rfl) (fun wx hS => ?_) ?_ ?_; rotate_left 2; (focus (go_simp; (first | done | with_reducible rfl))); (focus (with_reducible rfl)); (intro _ _)) | ((with_reducible refine Gd.isBin1 (ty := 4) ?_); refine Gd.gb (v := ?_) (e := ?_) (by rfl) (by first | exact Gd.want_t rfl rfl rfl | exact Gd.want_f rfl rfl rfl | exact Gd.want_mt rfl rfl rfl | exact Gd.want_mf rfl rfl rfl) ?_ ?_ ?_; rotate_left 2; (focus ((intro hb; have hb0 := hb; (try simp only [Bool.and_eq_true] at hb)); intro wx hS; go_simp; (first | done | with_reducible rfl))); (focus (with_reducible rfl)); (intro _ _)) | ((with_reducible refine Gd.isUn1 (ty := 4) ?_); refine Gd.gb (v := ?_) (e := ?_) (by rfl) (by first | exact Gd.want_t rfl rfl rfl | exact Gd.want_f rfl rfl rfl | exact Gd.want_mt rfl rfl rfl | exact Gd.want_mf rfl rfl rfl) ?_ ?_ ?_; rotate_left 2; (focus ((intro hb; have hb0 := hb; (try simp only [Bool.and_eq_true] at hb)); intro wx hS; go_simp; (first | done | with_reducible rfl))); (focus (with_reducible rfl)); (intro _ _)) | ((with_reducible refine Gd.is0 ?_); refine Gd.qp (v := ?_) (by rfl) (by rfl) (fun wx hS => ?_) ?_; rotate_left; (focus (go_simp; (first | done | with_reducible rfl)))) | ((with_reducible refine Gd.is1 ?_); refine Gd.gp (v := ?_) (by rfl) (by first | exact Gd.want_t rfl rfl rfl | exact Gd.want_f rfl rfl rfl | exact Gd.want_mt rfl rfl rfl | exact Gd.want_mf rfl rfl rfl) ?_ ?_; rotate_left; (focus ((intro hb; have hb0 := hb; (try simp only [Bool.and_eq_true] at hb)); intro wx hS; go_simp; (first | done | with_reducible rfl))))); (try simp only [Act.put, List.setIfInBounds_toArray, List.set_cons_zero, List.set_cons_succ]))
 refine Ch.done ?_
 go_upto_region 3 with (fail)
 refine Gd.plain 33 (fun wx => Blk wx g1 PL 41) (fun  | _ => false) rfl (hs.hold (.blk g1 41 PL) (by simp)) ?_
 change Ch.CW _ _ _ _ _ [0, 1, 2, 3, 4, 5, 6, 7, 8, 9, 10, 11, 12, 13, 14, 15, 16, 17, 18, 19, 20, 21, 22, 23, 24, 25, 26, 27, 28, 29, 30, 31, 32] _ _
 iterate 33 (refine Gd.look (by rfl) ?_; (first | ((with_reducible refine Gd.isLoad0 ?_); first | (refine Gd.qp (v := _) (by rfl) (by rfl) (fun wx hS => Se.xl (by rfl) (by rfl) (by rw [(hS).cell]; first | exact P1.out | exact P2.out | exact P3.out) (by decide +kernel)) ?_)) | ((with_reducible refine Gd.isLoad1 ?_); first | (refine Gd.gp (v := ?_) (by rfl) (by first | exact Gd.want_t rfl rfl rfl | exact Gd.want_f rfl rfl rfl | exact Gd.want_mt rfl rfl rfl | exact Gd.want_mf rfl rfl rfl) ?_ ?_; rotate_left; (focus ((intro hb; have hb0 := hb; (try simp only [Bool.and_eq_true] at hb)); intro wx hS; exact Se.xl (by rfl) (by exact Gd.mv_of hb0) (by rw [(hS).cell]; first | exact P1.out | exact P2.out | exact P3.out) (by decide +kernel)))) | (refine Gd.gp (v := ?_) (by rfl) (by first | exact Gd.want_t rfl rfl rfl | exact Gd.want_f rfl rfl rfl | exact Gd.want_mt rfl rfl rfl | exact Gd.want_mf rfl rfl rfl) ?_ ?_; rotate_left; (focus ((intro hb; have hb0 := hb; (try simp only [Bool.and_eq_true] at hb)); intro wx hS; exact Se.xl (by rfl) (by rfl) (by rw [(hS).cell]; first | exact P1.out | exact P2.out | exact P3.out) (by decide +kernel))))) | ((with_reducible refine Gd.isPick0 ?_); refine Gd.qpick (b := _) (v := ?_) (e := ?_) (by rfl) (by rfl) (by rfl) (by rfl) ?_ ?_ ?_; rotate_left 2; (focus (go_simp; (first | done | with_reducible rfl))); (focus (with_reducible rfl)); (intro _ _)) | ((with_reducible refine Gd.isPick1 ?_); refine Gd.gpick (b := ?_) (v := ?_) (e := ?_) (by rfl) (by rfl) (by first | exact Gd.want_t rfl rfl rfl | exact Gd.want_f rfl rfl rfl | exact Gd.want_mt rfl rfl rfl | exact Gd.want_mf rfl rfl rfl) ?_ ?_ ?_; rotate_left 3; (focus ((intro hb; have hb0 := hb; (try simp only [Bool.and_eq_true] at hb)); refine ⟨?_, ?_⟩ <;> (go_simp; (first | done | with_reducible rfl)))); (focus (with_reducible rfl)); (intro _ _)) | ((with_reducible refine Gd.isBin0 (ty := 4) ?_); refine Gd.qb (v := ?_) (e := ?_) (by rfl) (by rfl) (fun wx hS => ?_) ?_ ?_; rotate_left 2; (focus (go_simp; (first | done | with_reducible rfl))); (focus (with_reducible rfl)); (intro _ _)) | ((with_reducible refine Gd.isUn0 (ty := 4) ?_); refine Gd.qb (v := ?_) (e := ?_) (by rfl) (by rfl) (fun wx hS => ?_) ?_ ?_; rotate_left 2; (focus (go_simp; (first | done | with_reducible rfl))); (focus (with_reducible rfl)); (intro _ _)) | ((with_reducible refine Gd.isBin1 (ty := 4) ?_); refine Gd.gb (v := ?_) (e := ?_) (by rfl) (by first | exact Gd.want_t rfl rfl rfl | exact Gd.want_f rfl rfl rfl | exact Gd.want_mt rfl rfl rfl | exact Gd.want_mf rfl rfl rfl) ?_ ?_ ?_; rotate_left 2; (focus ((intro hb; have hb0 := hb; (try simp only [Bool.and_eq_true] at hb)); intro wx hS; go_simp; (first | done | with_reducible rfl))); (focus (with_reducible rfl)); (intro _ _)) | ((with_reducible refine Gd.isUn1 (ty := 4) ?_); refine Gd.gb (v := ?_) (e := ?_) (by rfl) (by first | exact Gd.want_t rfl rfl rfl | exact Gd.want_f rfl rfl rfl | exact Gd.want_mt rfl rfl rfl | exact Gd.want_mf rfl rfl rfl) ?_ ?_ ?_; rotate_left 2; (focus ((intro hb; have hb0 := hb; (try simp only [Bool.and_eq_true] at hb)); intro wx hS; go_simp; (first | done | with_reducible rfl))); (focus (with_reducible rfl)); (intro _ _)) | ((with_reducible refine Gd.is0 ?_); refine Gd.qp (v := ?_) (by rfl) (by rfl) (fun wx hS => ?_) ?_; rotate_left; (focus (go_simp; (first | done | with_reducible rfl)))) | ((with_reducible refine Gd.is1 ?_); refine Gd.gp (v := ?_) (by rfl) (by first | exact Gd.want_t rfl rfl rfl | exact Gd.want_f rfl rfl rfl | exact Gd.want_mt rfl rfl rfl | exact Gd.want_mf rfl rfl rfl) ?_ ?_; rotate_left; (focus ((intro hb; have hb0 := hb; (try simp only [Bool.and_eq_true] at hb)); intro wx hS; go_simp; (first | done | with_reducible rfl))))); (try simp only [Act.put, List.setIfInBounds_toArray, List.set_cons_zero, List.set_cons_succ]))
 refine Ch.done ?_
 go_upto_region 5 with (fail)
 ·go_wp2_with fail
  go_ret
  refine ⟨congrArg (fun b => Ending.returned (.bool b)) ?_, hs.drop⟩
  unfold Hid at *
  subst_vars
  have h1 : true = only1 p := by first | assumption | (symm; assumption)
  rw [only_eq, ← h1]
  rfl
 refine Gd.plain 46 (fun wx => Blk wx g1 PL 41) (fun  | _ => false) rfl (hs.hold (.blk g1 41 PL) (by simp)) ?_
 change Ch.CW _ _ _ _ _ [0, 1, 2, 3, 4, 5, 6, 7, 8, 9, 10, 11, 12, 13, 14, 15, 16, 17, 18, 19, 20, 21, 22, 23, 24, 25, 26, 27, 28, 29, 30, 31, 32, 33, 34, 35, 36, 37, 38, 39, 40, 41, 42, 43, 44, 45] _ _
 iterate 46 (refine Gd.look (by rfl) ?_; (first | ((with_reducible refine Gd.isLoad0 ?_); first | (refine Gd.qp (v := _) (by rfl) (by rfl) (fun wx hS => Se.xl (by rfl) (by rfl) (by rw [(hS).cell]; first | exact P4.out | exact P5.out | exact P6.out | exact P7.out) (by decide +kernel)) ?_)) | ((with_reducible refine Gd.isLoad1 ?_); first | (refine Gd.gp (v := ?_) (by rfl) (by first | exact Gd.want_t rfl rfl rfl | exact Gd.want_f rfl rfl rfl | exact Gd.want_mt rfl rfl rfl | exact Gd.want_mf rfl rfl rfl) ?_ ?_; rotate_left; (focus ((intro hb; have hb0 := hb; (try simp only [Bool.and_eq_true] at hb)); intro wx hS; exact Se.xl (by rfl) (by exact Gd.mv_of hb0) (by rw [(hS).cell]; first | exact P4.out | exact P5.out | exact P6.out | exact P7.out) (by decide +kernel)))) | (refine Gd.gp (v := ?_) (by rfl) (by first | exact Gd.want_t rfl rfl rfl | exact Gd.want_f rfl rfl rfl | exact Gd.want_mt rfl rfl rfl | exact Gd.want_mf rfl rfl rfl) ?_ ?_; rotate_left; (focus ((intro hb; have hb0 := hb; (try simp only [Bool.and_eq_true] at hb)); intro wx hS; exact Se.xl (by rfl) (by rfl) (by rw [(hS).cell]; first | exact P4.out | exact P5.out | exact P6.out | exact P7.out) (by decide +kernel))))) | ((with_reducible refine Gd.isPick0 ?_); refine Gd.qpick (b := _) (v := ?_) (e := ?_) (by rfl) (by rfl) (by rfl) (by rfl) ?_ ?_ ?_; rotate_left 2; (focus (go_simp; (first | done | with_reducible rfl))); (focus (with_reducible rfl)); (intro _ _)) | ((with_reducible refine Gd.isPick1 ?_); refine Gd.gpick (b := ?_) (v := ?_) (e := ?_) (by rfl) (by rfl) (by first | exact Gd.want_t rfl rfl rfl | exact Gd.want_f rfl rfl rfl | exact Gd.want_mt rfl rfl rfl | exact Gd.want_mf rfl rfl rfl) ?_ ?_ ?_; rotate_left 3; (focus ((intro hb; have hb0 := hb; (try simp only [Bool.and_eq_true] at hb)); refine ⟨?_, ?_⟩ <;> (go_simp; (first | done | with_reducible rfl)))); (focus (with_reducible rfl)); (intro _ _)) | ((with_reducible refine Gd.isBin0 (ty := 4) ?_); refine Gd.qb (v := ?_) (e := ?_) (by rfl) (by rfl) (fun wx hS => ?_) ?_ ?_; rotate_left 2; (focus (go_simp; (first | done | with_reducible rfl))); (focus (with_reducible rfl)); (intro _ _)) | ((with_reducible refine Gd.isUn0 (ty := 4) ?_); refine Gd.qb (v := ?_) (e := ?_) (by rfl) (by rfl) (fun wx hS => ?_) ?_ ?_; rotate_left 2; (focus (go_simp; (first | done | with_reducible rfl))); (focus (with_reducible rfl)); (intro _ _)) | ((with_reducible refine Gd.isBin1 (ty := 4) ?_); refine Gd.gb (v := ?_) (e := ?_) (by rfl) (by first | exact Gd.want_t rfl rfl rfl | exact Gd.want_f rfl rfl rfl | exact Gd.want_mt rfl rfl rfl | exact Gd.want_mf rfl rfl rfl) ?_ ?_ ?_; rotate_left 2; (focus ((intro hb; have hb0 := hb; (try simp only [Bool.and_eq_true] at hb)); intro wx hS; go_simp; (first | done | with_reducible rfl))); (focus (with_reducible rfl)); (intro _ _)) | ((with_reducible refine Gd.isUn1 (ty := 4) ?_); refine Gd.gb (v := ?_) (e := ?_) (by rfl) (by first | exact Gd.want_t rfl rfl rfl | exact Gd.want_f rfl rfl rfl | exact Gd.want_mt rfl rfl rfl | exact Gd.want_mf rfl rfl rfl) ?_ ?_ ?_; rotate_left 2; (focus ((intro hb; have hb0 := hb; (try simp only [Bool.and_eq_true] at hb)); intro wx hS; go_simp; (first | done | with_reducible rfl))); (focus (with_reducible rfl)); (intro _ _)) | ((with_reducible refine Gd.is0 ?_); refine Gd.qp (v := ?_) (by rfl) (by rfl) (fun wx hS => ?_) ?_; rotate_left; (focus (go_simp; (first | done | with_reducible rfl)))) | ((with_reducible refine Gd.is1 ?_); refine Gd.gp (v := ?_) (by rfl) (by first | exact Gd.want_t rfl rfl rfl | exact Gd.want_f rfl rfl rfl | exact Gd.want_mt rfl rfl rfl | exact Gd.want_mf rfl rfl rfl) ?_ ?_; rotate_left; (focus ((intro hb; have hb0 := hb; (try simp only [Bool.and_eq_true] at hb)); intro wx hS; go_simp; (first | done | with_reducible rfl))))); (try simp only [Act.put, List.setIfInBounds_toArray, List.set_cons_zero, List.set_cons_succ]))
 refine Ch.done ?_
 go_upto_region 7 with (fail)
 ·go_wp2_with fail
  go_ret
  refine ⟨congrArg (fun b => Ending.returned (.bool b)) ?_, hs.drop⟩
  unfold Hid at *
  subst_vars
  have h1 : false = only1 p := by first | assumption | (symm; assumption)
  have h2 : true = only2 p := by first | assumption | (symm; assumption)
  rw [only_eq, ← h1, ← h2]
  rfl
 refine Gd.plain 36 (fun wx => Blk wx g1 PL 41) (fun  | _ => false) rfl (hs.hold (.blk g1 41 PL) (by simp)) ?_
 change Ch.CW _ _ _ _ _ [0, 1, 2, 3, 4, 5, 6, 7, 8, 9, 10, 11, 12, 13, 14, 15, 16, 17, 18, 19, 20, 21, 22, 23, 24, 25, 26, 27, 28, 29, 30, 31, 32, 33, 34, 35] _ _
 iterate 36 (refine Gd.look (by rfl) ?_; (first | ((with_reducible refine Gd.isLoad0 ?_); first | (refine Gd.qp (v := _) (by rfl) (by rfl) (fun wx hS => Se.xl (by rfl) (by rfl) (by rw [(hS).cell]; first | exact P8.out | exact P9.out | exact P10.out | exact P11.out | exact P12.out) (by decide +kernel)) ?_)) | ((with_reducible refine Gd.isLoad1 ?_); first | (refine Gd.gp (v := ?_) (by rfl) (by first | exact Gd.want_t rfl rfl rfl | exact Gd.want_f rfl rfl rfl | exact Gd.want_mt rfl rfl rfl | exact Gd.want_mf rfl rfl rfl) ?_ ?_; rotate_left; (focus ((intro hb; have hb0 := hb; (try simp only [Bool.and_eq_true] at hb)); intro wx hS; exact Se.xl (by rfl) (by exact Gd.mv_of hb0) (by rw [(hS).cell]; first | exact P8.out | exact P9.out | exact P10.out | exact P11.out | exact P12.out) (by decide +kernel)))) | (refine Gd.gp (v := ?_) (by rfl) (by first | exact Gd.want_t rfl rfl rfl | exact Gd.want_f rfl rfl rfl | exact Gd.want_mt rfl rfl rfl | exact Gd.want_mf rfl rfl rfl) ?_ ?_; rotate_left; (focus ((intro hb; have hb0 := hb; (try simp only [Bool.and_eq_true] at hb)); intro wx hS; exact Se.xl (by rfl) (by rfl) (by rw [(hS).cell]; first | exact P8.out | exact P9.out | exact P10.out | exact P11.out | exact P12.out) (by decide +kernel))))) | ((with_reducible refine Gd.isPick0 ?_); refine Gd.qpick (b := _) (v := ?_) (e := ?_) (by rfl) (by rfl) (by rfl) (by rfl) ?_ ?_ ?_; rotate_left 2; (focus (go_simp; (first | done | with_reducible rfl))); (focus (with_reducible rfl)); (intro _ _)) | ((with_reducible refine Gd.isPick1 ?_); refine Gd.gpick (b := ?_) (v := ?_) (e := ?_) (by rfl) (by rfl) (by first | exact Gd.want_t rfl rfl rfl | exact Gd.want_f rfl rfl rfl | exact Gd.want_mt rfl rfl rfl | exact Gd.want_mf rfl rfl rfl) ?_ ?_ ?_; rotate_left 3; (focus ((intro hb; have hb0 := hb; (try simp only [Bool.and_eq_true] at hb)); refine ⟨?_, ?_⟩ <;> (go_simp; (first | done | with_reducible rfl)))); (focus (with_reducible rfl)); (intro _ _)) | ((with_reducible refine Gd.isBin0 (ty := 4) ?_); refine Gd.qb (v := ?_) (e := ?_) (by rfl) (by rfl) (fun wx hS => ?_) ?_ ?_; rotate_left 2; (focus (go_simp; (first | done | with_reducible rfl))); (focus (with_reducible rfl)); (intro _ _)) | ((with_reducible refine Gd.isUn0 (ty := 4) ?_); refine Gd.qb (v := ?_) (e := ?_) (by rfl) (by rfl) (fun wx hS => ?_) ?_ ?_; rotate_left 2; (focus (go_simp; (first | done | with_reducible rfl))); (focus (with_reducible rfl)); (intro _ _)) | ((with_reducible refine Gd.isBin1 (ty := 4) ?_); refine Gd.gb (v := ?_) (e := ?_) (by rfl) (by first | exact Gd.want_t rfl rfl rfl | exact Gd.want_f rfl rfl rfl | exact Gd.want_mt rfl rfl rfl | exact Gd.want_mf rfl rfl rfl) ?_ ?_ ?_; rotate_left 2; (focus ((intro hb; have hb0 := hb; (try simp only [Bool.and_eq_true] at hb)); intro wx hS; go_simp; (first | done | with_reducible rfl))); (focus (with_reducible rfl)); (intro _ _)) | ((with_reducible refine Gd.isUn1 (ty := 4) ?_); refine Gd.gb (v := ?_) (e := ?_) (by rfl) (by first | exact Gd.want_t rfl rfl rfl | exact Gd.want_f rfl rfl rfl | exact Gd.want_mt rfl rfl rfl | exact Gd.want_mf rfl rfl rfl) ?_ ?_ ?_; rotate_left 2; (focus ((intro hb; have hb0 := hb; (try simp only [Bool.and_eq_true] at hb)); intro wx hS; go_simp; (first | done | with_reducible rfl))); (focus (with_reducible rfl)); (intro _ _)) | ((with_reducible refine Gd.is0 ?_); refine Gd.qp (v := ?_) (by rfl) (by rfl) (fun wx hS => ?_) ?_; rotate_left; (focus (go_simp; (first | done | with_reducible rfl)))) | ((with_reducible refine Gd.is1 ?_); refine Gd.gp (v := ?_) (by rfl) (by first | exact Gd.want_t rfl rfl rfl | exact Gd.want_f rfl rfl rfl | exact Gd.want_mt rfl rfl rfl | exact Gd.want_mf rfl rfl rfl) ?_ ?_; rotate_left; (focus ((intro hb; have hb0 := hb; (try simp only [Bool.and_eq_true] at hb)); intro wx hS; go_simp; (first | done | with_reducible rfl))))); (try simp only [Act.put, List.setIfInBounds_toArray, List.set_cons_zero, List.set_cons_succ]))
 refine Ch.done ?_
 go_wp2_with fail
 go_ret
 refine ⟨congrArg (fun b => Ending.returned (.bool b)) ?_, hs.drop⟩
 unfold Hid at *
 subst_vars
 have h1 : false = only1 p := by first | assumption | (symm; assumption)
 have h2 : false = only2 p := by first | assumption | (symm; assumption)
 rw [only_eq, ← h1, ← h2]
 rfl
end Pd
end Go.Proofs.Ytdngfcmakjlamaa


/- Layer 35: the law PduMeasures, the walk. No condition. -/
import Derived.Test.YtgpbmohfgjmpkaaPduKnown
import Derived.Test.YtgpbmohfgjmpkaaPduRMeasW
set_option linter.unusedSimpArgs false
set_option linter.unusedVariables false
namespace Go.Proofs.Ytgpbmohfgjmpkaa
open Go Go.RowKit
namespace Pd
open Se (St At Reads Cell)
open Li (v8 v8_one Rd Blk Fr)
open Bv (n8 n16 n32 n64)
variable {w0 w : World} {X : List Nat} {L : List At}
attribute [local irreducible] Calls
set_option maxRecDepth 100000 in
set_option maxHeartbeats 4000000 in
theorem measures_st (hs : St w0 X L w) (bs : List (BitVec 8)) (f : Fm) {S : Option Addr} {n c : Nat} (hn : n = bs.length) (hS : Reads L S (bs.map v8)) (hc : n ≤ c) :
    Calls Try.prog 4 #[.slice S n c, fv f] w fun e' w' => e' = .returned (.bool true) ∧ St w0 X L w' := by
  by_cases h3 : 3000 < n
  · obtain ⟨F, hF⟩ : ∃ F, F = fl f := ⟨_, rfl⟩
    have CK : Hid (∀ (L' : List At) (w : World), St w0 X (L' ++ L) w → Calls Try.prog 11 #[] w fun e w' => e = .returned (.bool true) ∧ St w0 X (L' ++ L) w') := Lib.hid (fun L' w hs => known_st hs)
    rw [fv_eq, ← hF]
    have h3' : decide ((3000 : Int) < (n : Int)) = true := by simp; omega
    clear h3 hF hn hS hc
    go_enter Try.func4, Try.ntmps4
    go_wp2_with (first | ((first | with_reducible refine Se.ab hs ?_ | with_reducible refine Se.abc hs ?_); clear hs; (first | (generalize w.heap.size = g3; intro w hs))) | (go_at_call 11; refine Calls.mono (CK.out [_] _ hs) ?_; clear hs; rintro e w ⟨rfl, hs⟩))
    go_ret
    exact ⟨rfl, hs.drop⟩
  have hle : n ≤ 70368744177664 := by omega
  obtain ⟨⟨t, e⟩, hm⟩ : ∃ x, meas bs f = x := ⟨_, rfl⟩
  obtain ⟨F, hF⟩ : ∃ F, F = fl f := ⟨_, rfl⟩
  obtain ⟨m, hmm⟩ : ∃ m, m = min 8 n := ⟨_, rfl⟩
  have FL := Lib.hid (show F.length = 3 by rw [hF]; rfl)
  have CM : Hid (∀ (L' : List At) (w : World), St w0 X (L' ++ L) w → Calls Try.prog 18 #[.slice S n c, .agg F.toArray] w fun e' w' => e' = .returned (.tuple #[iv t, iv e]) ∧ St w0 X (L' ++ L) w') := Lib.hid (fun L' w hs => by rw [hF, ← fv_eq]; exact measureD_st hs bs f hn (hS.app L') hc hle hm)
  have CR : Hid (∀ (L' : List At) (w : World), St w0 X (L' ++ L) w → Calls Try.prog 19 #[.slice S n c, .agg F.toArray] w fun e' w' => e' = .returned (.tuple #[iv t, iv e]) ∧ St w0 X (L' ++ L) w') := Lib.hid (fun L' w hs => by rw [hF, ← fv_eq]; exact rMeasure_st hs bs f hn (hS.app L') hc hle hm)
  have CM2 : Hid (∀ (L' : List At) (w : World), St w0 X (L' ++ L) w → Calls Try.prog 18 #[.slice S m c, .agg F.toArray] w fun e' w' => e' = .returned (.tuple #[iv t, iv e]) ∧ St w0 X (L' ++ L) w') := Lib.hid (fun L' w hs => by
    rw [hF, ← fv_eq]
    refine measureD_st hs (bs.take 8) f (by rw [hmm, List.length_take, hn]) ?_ (by omega) (by omega) (by rw [meas_take]; exact hm)
    rw [List.map_take]
    exact (hS.app L').take 8)
  have CK : Hid (∀ (L' : List At) (w : World), St w0 X (L' ++ L) w → Calls Try.prog 11 #[] w fun e w' => e = .returned (.bool true) ∧ St w0 X (L' ++ L) w') := Lib.hid (fun L' w hs => known_st hs)
  rw [fv_eq, ← hF]
  have hmc : (m : Int) ≤ (c : Int) := by omega
  have hmi : (if (n : Int) < 8 then (n : Int) else 8) = (m : Int) := by split <;> omega
  have hmc' : m ≤ c := by omega
  clear hm hF hn hS hc hle hmm
  have h3' : decide ((3000 : Int) < (n : Int)) = false := by simp; omega
  clear h3
  go_enter Try.func4, Try.ntmps4
  go_upto_region 7 with (first | ((with_reducible refine Se.isL (o := ⟨some 17, _, _, _, _, _⟩) ?_); (refine Se.toL rfl (Se.ldw (o := ⟨some 17, _, _, _, _, _⟩) hs rfl rfl ((Reads.blk 0 rfl)) ((by rw [FL.out]; kernel_rfl)) (by kernel_rfl) ?_))) | ((with_reducible refine Se.isL (o := ⟨some 23, _, _, _, _, _⟩) ?_); (refine Se.toL rfl (Se.ldw (o := ⟨some 23, _, _, _, _, _⟩) hs rfl rfl ((Reads.blk 0 rfl)) ((by rw [FL.out]; kernel_rfl)) (by kernel_rfl) ?_))) | ((first | with_reducible refine Se.ab hs ?_ | with_reducible refine Se.abc hs ?_); clear hs; (first | (generalize w.heap.size = g3; intro w hs))) | (go_at_call 18; refine Calls.mono (CM.out [_] _ hs) ?_; clear hs; rintro e w ⟨rfl, hs⟩) | (go_at_call 19; refine Calls.mono (CR.out [_] _ hs) ?_; clear hs; rintro e w ⟨rfl, hs⟩))
  refine Ch.region' 12 (fun wx => Blk wx g3 F 29) (fun | 6 => true | _ => false) (by kernel_rfl) (by decide +kernel) (hs.drew.hold (.blk g3 29 F) (by simp)) ?_
  replace hs := hs.drew
  generalize w.drew = w at hs ⊢
  change Ch.CW _ _ _ _ _ [0, 1, 2, 3, 4, 5, 6, 7, 8, 9, 10, 11] _ _
  iterate 6 ((first | (refine Ch.pure (v := ?_) (by rfl) (by rfl) (by rfl) (fun wx hS => ?_) ?_; rotate_left; (focus (go_simp; (first | done | with_reducible rfl)))) | refine Ch.pure (v := _) (by rfl) (by rfl) (by rfl) (fun wx hS => Se.xla rfl rfl (Li.Rd.of_blk hS) (by rw [FL.out] <;> kernel_rfl) (by kernel_rfl)) ?_); (try simp only [Act.put, List.setIfInBounds_toArray, List.set_cons_zero, List.set_cons_succ]))
  refine Ch.noise (by rfl) (by rfl) (by rfl) ?_
  refine Se.gcall (f := 18) (args := #[.slice S m c, .agg F.toArray]) ?_ ?_
  · go_simp
  refine Calls.mono (CM2.out [_] _ hs) ?_
  clear hs
  rintro e w ⟨rfl, hs⟩
  refine ⟨_, rfl, hs.hold (.blk g3 29 F) (by simp), ?_⟩
  (try simp only [Act.put, List.setIfInBounds_toArray, List.set_cons_zero, List.set_cons_succ])
  iterate 5 ((first | (refine Ch.pure (v := ?_) (by rfl) (by rfl) (by rfl) (fun wx hS => ?_) ?_; rotate_left; (focus (go_simp; (first | done | with_reducible rfl))))); (try simp only [Act.put, List.setIfInBounds_toArray, List.set_cons_zero, List.set_cons_succ]))
  refine Ch.done ?_
  simp only [List.drop_succ_cons, List.drop_zero]
  go_wp2_with (first | (go_at_call 11; refine Calls.mono (CK.out [_] _ hs) ?_; clear hs; rintro e w ⟨rfl, hs⟩))
  go_ret
  exact ⟨rfl, hs.drop⟩
theorem measures_any (bs : List (BitVec 8)) (f : Fm) {S : Option Addr} {n c : Nat} (w0 : World) (hn : n = bs.length) (hS : Rd w0 S (bs.map v8)) (hc : n ≤ c) :
    Calls Try.prog 4 #[.slice S n c, fv f] w0 fun e w' => e = .returned (.bool true) ∧ Below w0.heap.size w0 w' :=
  (measures_st (L := [.rd S (bs.map v8)]) (rd1 hS) bs f hn (Reads.rd 0 rfl) hc).mono fun e w' h => ⟨h.1, h.2.below⟩
end Pd
end Go.Proofs.Ytgpbmohfgjmpkaa

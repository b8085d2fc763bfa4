/- Walks of the primes of sha. -/
import Derived.Test.YtakdoijemopejaaGreatShaWide
import Derived.Test.YtakdoijemopejaaGreatBaseA
set_option maxRecDepth 100000
set_option linter.unusedSimpArgs false
set_option linter.unusedVariables false
namespace Go.Proofs.YtakdoijemopejaaGreat
open Go.RowKit
namespace Sha
open Bv (n8 n16 n32 n64)
def u64v (q : Nat) : Value := .int .u64 (q : Int)
set_option maxHeartbeats 400000 in
theorem divides_any (q p pb : Nat) (hq : 0 < q) (w : World) (hc : w.cell? ⟨pb, 0, none⟩ = some (.int .u64 (p : Int))) :
  Calls Tryz.prog 103 #[.int .u64 (q : Int), .pointer (some ⟨pb, 0, none⟩)] w fun e w' => e = .returned (.bool (decide (p % q = 0))) ∧ w = w' := by
 have h0 : ¬ ((q : Int) = 0) := by omega
 have h1 : (0 : Int) ≤ (p : Int) := by omega
 go_enter Tryz.func103, Tryz.ntmps103
 go_wp2
 go_ret
 refine ⟨?_, rfl⟩
 have e : ((p : Int) % (q : Int) == 0) = decide (p % q = 0) := by
  rw [Bool.eq_iff_iff]; simp; omega
 rw [← e]; rfl
def Found (p : Nat) (qs : List Nat) (w : World) (e : Ending) (w' : World) : Prop := ∃ r : Int, e = .returned (.int .i64 r) ∧ (decide (0 ≤ r) = qs.any (fun q => p % q == 0)) ∧ w = w'
set_option maxHeartbeats 1000000 in
theorem indexFunc_any (p pb : Nat) (qs : List Nat) (b cap : Nat) (w : World) (hc : w.cell? ⟨pb, 0, none⟩ = some (.int .u64 (p : Int))) (hq : ∀ i (h : i < qs.length), 0 < qs[i] ∧ w.cell? ⟨b, i, none⟩ = some (.int .u64 (qs[i] : Int)))
  (hl : qs.length ≤ 1000) :
  Calls Tryz.prog 107 #[.slice (some ⟨b, 0, none⟩) qs.length cap, .func (.func 103) #[] #[.pointer (some ⟨pb, 0, none⟩)]] w (Found p qs w) := by
 go_enter Tryz.func107, Tryz.ntmps107
 go_wp2_with fail
 go_loop [8] (fun s8 => ∃ k : Nat, k ≤ qs.length ∧ s8 = .int .i64 k ∧ Hid (∀ j (h : j < qs.length), j < k → ¬ p % qs[j] = 0)) (fun s8 => qs.length - (intOf s8).toNat)
 case atStart => exact ⟨0, Nat.zero_le _, rfl, Lib.hid (fun _ _ h => by omega)⟩
 case round =>
  obtain ⟨k, hk, rfl, hn⟩ := hrel
  by_cases hlt : k < qs.length
  ·obtain ⟨h0, h1⟩ := hq k hlt
   by_cases hd : p % qs[k] = 0
   ·have hd' : decide (p % qs[k] = 0) = true := decide_eq_true hd
    have HD := Lib.hid hd
    clear hd
    go_wp2_with (go_at_call 103; refine (divides_any _ p pb h0 _ hc).mono ?_; rintro e w' ⟨rfl, rfl⟩)
    go_ret
    refine ⟨k, rfl, ?_, rfl⟩
    rw [decide_eq_true (by omega)]
    symm
    rw [List.any_eq_true]
    exact ⟨qs[k], List.getElem_mem hlt, by simpa using HD.out⟩
   ·have hd' : decide (p % qs[k] = 0) = false := decide_eq_false hd
    have HD := Lib.hid hd
    clear hd
    go_wp2_with (go_at_call 103; refine (divides_any _ p pb h0 _ hc).mono ?_; rintro e w' ⟨rfl, rfl⟩)
    go_round
    case rel => exact ⟨k + 1, by omega, by go_num, Lib.hid (fun j hj hjk => by
     by_cases e : j = k
     ·subst e; exact HD.out
     ·exact hn.out j hj (by omega))⟩
    case measure => simp [intOf]; omega
  ·go_wp2_with fail
   go_ret
   refine ⟨-1, rfl, ?_, rfl⟩
   rw [decide_eq_false (by omega)]
   symm
   rw [List.any_eq_false]
   intro q hqm
   obtain ⟨j, hj, rfl⟩ := List.getElem_of_mem hqm
   simpa using hn.out j hj (by omega)
set_option maxHeartbeats 400000 in
theorem containsFunc_any (p pb : Nat) (qs : List Nat) (b cap : Nat) (w : World) (hc : w.cell? ⟨pb, 0, none⟩ = some (.int .u64 (p : Int))) (hq : ∀ i (h : i < qs.length), 0 < qs[i] ∧ w.cell? ⟨b, i, none⟩ = some (.int .u64 (qs[i] : Int)))
  (hl : qs.length ≤ 1000) :
  Calls Tryz.prog 102 #[.slice (some ⟨b, 0, none⟩) qs.length cap, .func (.func 103) #[] #[.pointer (some ⟨pb, 0, none⟩)]] w fun e w' => e = .returned (.bool (qs.any fun q => p % q == 0)) ∧ w = w' := by
 have C := Lib.hid (indexFunc_any p pb qs b cap w hc hq hl)
 go_enter Tryz.func102, Tryz.ntmps102
 go_wp2_with (go_at_call 107; refine Calls.mono C.out ?_; rintro e w' ⟨r, rfl, hr, rfl⟩)
 go_ret
 exact ⟨by rw [← hr]; rfl, rfl⟩
/-- The primes among 2 .. j + 1. -/
def ps : Nat → List Nat
 | 0 => []
 | j + 1 => if (ps j).any (fun q => (j + 2) % q == 0) then ps j else ps j ++ [j + 2]
def pr64 : List Nat := [2, 3, 5, 7, 11, 13, 17, 19, 23, 29, 31, 37, 41, 43, 47, 53, 59, 61, 67, 71, 73, 79, 83, 89, 97, 101, 103, 107, 109, 113, 127, 131, 137, 139, 149, 151, 157, 163, 167, 173, 179, 181, 191, 193, 197, 199, 211, 223, 227, 229, 233, 239, 241, 251, 257, 263, 269, 271, 277, 281, 283, 293, 307, 311]
theorem ps_end : ps 310 = pr64 := by decide +kernel
theorem ps_309 : (ps 309).length = 63 := by decide +kernel
theorem ps_mono (j : Nat) : (ps j).length ≤ (ps (j + 1)).length := by
 rw [ps]; split <;> simp
theorem ps_le (j k : Nat) (h : j ≤ k) : (ps j).length ≤ (ps k).length := by
 induction k with
 | zero => rw [show j = 0 by omega]; exact Nat.le_refl _
 | succ k ih =>
  by_cases e : j = k + 1
  ·subst e; exact Nat.le_refl _
  ·exact Nat.le_trans (ih (by omega)) (ps_mono k)
theorem ps_lt (j : Nat) (h : j ≤ 309) : (ps j).length < 64 := by
 have := ps_le j 309 h
 rw [ps_309] at this; omega
theorem ps_pos (j : Nat) : ∀ q ∈ ps j, 0 < q := by
 induction j with
 | zero => intro q h; cases h
 | succ j ih =>
  rw [ps]
  split
  ·exact ih
  ·intro q h
   rcases List.mem_append.1 h with h | h
   ·exact ih q h
   ·simp at h; omega
attribute [local irreducible] ps
structure PrInv (n : Nat) (w : World) (j : Nat) (pb : Nat) (wr : World) : Prop where
 out : Li.Blk wr n (Li.rowOf (u64v 0) 64 ((ps j).map u64v)) 170
 p : Li.Blk wr pb [u64v (j + 2)] 90
 b : Below n w wr
 lt : n < pb
set_option maxRecDepth 100000 in
set_option maxHeartbeats 2000000 in
theorem primes_any (w : World) : Calls Tryz.prog 95 #[] w fun e w' => e = .returned (.agg (pr64.map u64v).toArray) ∧ Below w.heap.size w w' := by
 obtain ⟨n, hn⟩ : ∃ n, n = w.heap.size := ⟨_, rfl⟩
 go_enter Tryz.func95, Tryz.ntmps95
 go_wp2_with fail
 have I0 : PrInv n w 0 (n + 1) ((w.alloc (.cells (List.replicate 64 (u64v 0)).toArray 170)).alloc (.cells [u64v 2].toArray 90)) := by
  subst hn
  exact ⟨by rw [ps]; exact Li.Blk.alloc (Li.Blk.new' rfl) _, Li.Blk.new' (by simp), ((Below.refl _ _).alloc (Nat.le_refl _) _).alloc (by simp) _, by omega⟩
 have HN := Lib.hid hn
 rw [← hn]
 clear hn
 go_loopg [1, 2] 310 (fun gh s1 s2 wr => ∃ j pb : Nat, gh = 310 - j ∧ j ≤ 310 ∧ s1 = .int .i64 (ps j).length ∧ s2 = .pointer (some ⟨pb, 0, none⟩) ∧ PrInv n w j pb wr)
 case atStart => exact ⟨0, n + 1, rfl, by omega, by rw [ps]; rfl, rfl, I0⟩
 case round =>
  clear I0
  obtain ⟨j, pb, rfl, hj, rfl, rfl, hI⟩ := hrel
  have cp := (hI.p.cell 0).trans (show _ = some (.int .u64 ((j + 2 : Nat) : Int)) from rfl)
  have fp := hI.p.frozen 0
  have ln := hI.lt
  by_cases hlt : j < 310
  ·have hl := ps_lt j (by omega)
   have ll : ((ps j).length : Int) < 64 := by omega
   have cK := (hI.out.cell (ps j).length).trans (Li.rowOf_get _ _ _ _ hl)
   have fK := hI.out.frozen (ps j).length
   have hsl := fun wx => Li.run_first (P := Tryz.prog) (t := 170) (n := 64) (e := 90) Tryz.underlying170 (by kernel_rfl) n 0 (ps j).length (by omega) wx
   have hq : ∀ i (h : i < (ps j).length), 0 < (ps j)[i] ∧ wr.cell? ⟨n, i, none⟩ = some (.int .u64 ((ps j)[i] : Int)) := fun i h => by
    refine ⟨ps_pos j _ (List.getElem_mem h), ?_⟩
    rw [hI.out.cell i, Li.rowOf_get _ _ _ _ (by omega)]
    simp [h, u64v]
   have C := Lib.hid (containsFunc_any (j + 2) pb (ps j) n 64 wr cp hq (by omega))
   clear hq
   cases hany : (ps j).any (fun q => (j + 2) % q == 0) with
   | true =>
    have e1 : ps (j + 1) = ps j := by rw [ps, if_pos hany]
    have E1 := Lib.hid e1
    rw [hany] at C
    clear e1 hany
    go_wp2_with (go_at_call 102; refine Calls.mono C.out ?_; rintro e w' ⟨rfl, rfl⟩)
    go_roundg (310 - (j + 1))
    case measure => omega
    case rel =>
     refine ⟨j + 1, wr.heap.size, rfl, by omega, by rw [E1.out], rfl, ?_⟩
     have ep : u64v (j + 1 + 2) = .int .u64 ((j : Int) + 2 + 1) := by unfold u64v; rw [show ((j + 1 + 2 : Nat) : Int) = (j : Int) + 2 + 1 by omega]
     exact ⟨by rw [E1.out]; exact hI.out.alloc _, by rw [ep]; exact Li.Blk.new' rfl, hI.b.alloc (by have := hI.out.lt; omega) _, hI.out.lt⟩
   | false =>
    have e1 : ps (j + 1) = ps j ++ [j + 2] := by rw [ps, hany]; rfl
    have E1 := Lib.hid e1
    rw [hany] at C
    clear e1 hany
    go_wp2_with (go_at_call 102; refine Calls.mono C.out ?_; rintro e w' ⟨rfl, rfl⟩)
    go_roundg (310 - (j + 1))
    case measure => omega
    case rel =>
     refine ⟨j + 1, wr.heap.size, rfl, by omega, by rw [E1.out]; simp, rfl, ?_⟩
     have ep : u64v (j + 1 + 2) = .int .u64 ((j : Int) + 2 + 1) := by unfold u64v; rw [show ((j + 1 + 2 : Nat) : Int) = (j : Int) + 2 + 1 by omega]
     refine ⟨?_, by rw [ep]; exact Li.Blk.new' (by simp), (hI.b.setCell (by simp) _).alloc (by have := hI.out.lt; simp; omega) _, hI.out.lt⟩
     have st := hI.out.set (ps j).length (u64v (j + 2))
     have st2 := Li.rowOf_set (u64v 0) 64 ((ps j).map u64v) (by simpa using hl) (u64v (j + 2))
     rw [List.length_map] at st2
     rw [st2, ← List.map_singleton, ← List.map_append, ← E1.out] at st
     exact st.alloc _
  ·have ej : j = 310 := by omega
   subst ej
   have hB := hI.out
   rw [ps_end, Li.rowOf_full (u64v 0) 64 (pr64.map u64v) rfl] at hB
   have e64 : ((ps 310).length : Int) = 64 := by rw [ps_end]; rfl
   rw [e64]
   have hb := hI.b
   have h1 : Hid (∀ v ∈ pr64.map u64v, v.oneCell' = true) := Lib.hid (by intro v hv; obtain ⟨x, _, rfl⟩ := List.mem_map.1 hv; rfl)
   have hlen : Hid ((pr64.map u64v).length = 64) := Lib.hid rfl
   clear cp fp hI e64 hj hlt
   obtain ⟨L, hL⟩ : ∃ L, L = pr64.map u64v := ⟨_, rfl⟩
   rw [← hL] at hB h1 hlen
   have HL := Lib.hid hL
   clear hL
   go_wp2_with (first
    | (refine Li.wpList_load_blk rfl 170 (.tmp 0) rfl n rfl hB Tryz.underlying170 rfl ?_ ?_; (rw [hlen.out]; kernel_rfl))
    | (refine Li.wpList_store_blk rfl 170 (.tmp 0) (.tmp 18) rfl n rfl rfl hB rfl ?_ ?_ ?_; (rw [hlen.out]; kernel_rfl); exact h1.out))
   have hB' := hB.setAll (vs := L) rfl
   refine Li.bodyPost_blk rfl rfl hB' Tryz.underlying170 rfl (by rw [hlen.out]; kernel_rfl) rfl ⟨by rw [HL.out], ?_⟩
   rw [← HN.out]
   exact Li.below_setCells _ _ _ _ hb (by omega)
end Sha
end Go.Proofs.YtakdoijemopejaaGreat


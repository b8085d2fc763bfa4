/- The walks of Digest.Copy and Digest.Len. -/
import Derived.Test.YtakdoijemopejaaGreatShaWrite
import Derived.Test.YtakdoijemopejaaGreatClone
set_option maxRecDepth 100000
set_option linter.unusedSimpArgs false
set_option linter.unusedVariables false
namespace Go.Proofs.YtakdoijemopejaaGreat
open Go.RowKit
namespace Sha
open Bv (n8 n16 n32 n64)
attribute [local irreducible] K64 H8 stepL chN
theorem chW_one (s k : List (BitVec 32)) (rd : Bool) (A : Option Addr) (n c : Nat) (m : Int) : ∀ v ∈ chW s k rd (.slice A n c) (.int .i64 m), v.oneCell' = true := by
 intro v hv
 unfold chW at hv
 rcases List.mem_append.1 hv with h | h
 ·exact map32_one s v h
 rcases List.mem_append.1 h with h | h
 ·exact map32_one k v h
 ·simp at h
  rcases h with rfl | rfl | rfl <;> rfl
def zs8 : List (BitVec 32) := List.replicate 8 0
def zs64 : List (BitVec 32) := List.replicate 64 0
theorem zs8_l : zs8.length = 8 := rfl
theorem zs64_l : zs64.length = 64 := rfl
theorem zero42 (w : World) : (zeroValue 135).run Tryz.prog w = .ok (.agg (chW zs8 zs64 false (.slice none 0 0) (.int .i64 0)).toArray) w := by kernel_rfl
attribute [local go_sem ↓] zero42
attribute [local irreducible] chW zs8 zs64
set_option maxHeartbeats 2000000 in
theorem copy_any (D : Nat) (r : Option Nat) (M : List (BitVec 8)) (w : World) (hD : Dg w D r M) :
  Calls Tryz.prog 83 #[.pointer (some ⟨D, 0, none⟩)] w fun e w' => ∃ D' r', e = .returned (.pointer (some ⟨D', 0, none⟩)) ∧ w.heap.size ≤ D' ∧ Dg w' D' r' M ∧ Below w.heap.size w w' ∧ (∀ g, r' = some g → w.heap.size ≤ g) := by
 obtain ⟨n, hn⟩ : ∃ n, n = w.heap.size := ⟨_, rfl⟩
 obtain ⟨s, k, A, c, h⟩ := hD
 obtain ⟨j, hj⟩ : ∃ j, j = M.length / 64 := ⟨_, rfl⟩
 rw [← hj] at h
 obtain ⟨m, hm⟩ : ∃ m, m = M.length - 64 * j := ⟨_, rfl⟩
 have hml : m = ((M.drop (64 * j)).map v8).length := by simp [hm]
 have hm64 : m ≤ 64 := by omega
 have hd := h.d
 rw [← hm] at hd
 have hD75 := chW_length h.hs h.hk (decide (0 < j)) (.slice A m c) (.int .i64 (M.length : Nat))
 have hne : D ≠ n := by have := hd.lt; omega
 obtain ⟨cs, hcs⟩ : ∃ cs, cs = chW s k (decide (0 < j)) (.slice A m c) (.int .i64 (M.length : Nat)) := ⟨_, rfl⟩
 have hone : ∀ v ∈ cs, v.oneCell' = true := by rw [hcs]; exact chW_one _ _ _ _ _ _ _
 rw [← hcs] at hd hD75
 have n1 : Li.Blk ((w.alloc (.cells (chW zs8 zs64 false (.slice none 0 0) (.int .i64 0)).toArray 135)).setCells n 0 cs) n cs 135 := (Li.Blk.new' hn).setAll (by rw [hD75, chW_length zs8_l zs64_l])
 have d1 : Li.Blk ((w.alloc (.cells (chW zs8 zs64 false (.slice none 0 0) (.int .i64 0)).toArray 135)).setCells n 0 cs) D cs 135 := (hd.alloc _).setCellsOther hne _ _
 have b1 : Below n w ((w.alloc (.cells (chW zs8 zs64 false (.slice none 0 0) (.int .i64 0)).toArray 135)).setCells n 0 cs) := Li.below_setCells _ _ _ _ ((Below.refl _ _).alloc (by omega) _) (Nat.le_refl _)
 have o1 : Li.Os ((w.alloc (.cells (chW zs8 zs64 false (.slice none 0 0) (.int .i64 0)).toArray 135)).setCells n 0 cs) 5 r A c ((M.drop (64 * j)).map v8) := h.o.grow (by rw [← hn]; exact b1)
 have c73 := (d1.cell 73).trans (show _ = some (.slice A m c) by rw [hcs]; exact chW_73 h.hs h.hk _ _ _)
 have CL := Lib.hid (clone_any (A := A) (n := m) (c := c) _ o1.rd (Li.v8_one _) hml (by omega))
 have N1 := Lib.hid n1
 have HD := Lib.hid hd
 have HC := Lib.hid hcs
 have H := Lib.hid h
 have HJ := Lib.hid hj
 have HM := Lib.hid hm
 have B1 := Lib.hid b1
 have HN := Lib.hid hn
 have H75 := Lib.hid hD75
 have HO := Lib.hid hone
 have hsz : n < ((w.alloc (.cells (chW zs8 zs64 false (.slice none 0 0) (.int .i64 0)).toArray 135)).setCells n 0 cs).heap.size := n1.lt
 clear n1 hd hcs h hj hm b1 o1 d1 hml hD75 hone hm64 hn
 revert N1 c73 CL B1 hsz
 obtain ⟨w1, hw1⟩ : ∃ w1, w1 = (w.alloc (.cells (chW zs8 zs64 false (.slice none 0 0) (.int .i64 0)).toArray 135)).setCells n 0 cs := ⟨_, rfl⟩
 rw [← hw1]
 intro c73 CL N1 B1 hsz
 have HW := Lib.hid hw1
 clear hw1
 go_enter Tryz.func83, Tryz.ntmps83
 go_wp2_with (first
  | (refine Li.wpList_load_blk rfl 135 _ rfl D (by rfl) HD.out Tryz.underlying135 rfl (by rw [H75.out]; kernel_rfl) ?_)
  | (refine Li.wpList_store_blk rfl 135 _ _ rfl n (by rw [HN.out]; rfl) (by rfl) (l := chW zs8 zs64 false (.slice none 0 0) (.int .i64 0)) (t := 135) (Li.Blk.new' HN.out) (by rw [H75.out, chW_length zs8_l zs64_l]) (by rw [H75.out]; kernel_rfl) HO.out ?_; rw [← HW.out, ← HN.out]))
 refine Calls.mono CL.out ?_
 rintro e w2 ⟨A2, c2, r2, rfl, o2, b2, hr2⟩
 have n2 := N1.out.grow b2
 have c73n := (n2.cell 73).trans (show _ = some (.slice A m c) by rw [HC.out]; exact chW_73 H.out.hs H.out.hk _ _ _)
 have f73n := n2.frozen 73
 have O2 := Lib.hid o2
 have N2 := Lib.hid n2
 have B2 := Lib.hid b2
 have R2 := Lib.hid hr2
 clear o2 n2 b2 hr2 CL c73
 go_wp2_with fail
 go_ret
 have hr : ∀ g, r2 = some g → w1.heap.size ≤ g := by
  rintro g rfl
  rcases R2.out with h | h
  ·cases h
  ·simpa using h
 refine ⟨n, r2, rfl, by rw [HN.out]; exact Nat.le_refl _, ⟨s, k, A2, c2, ⟨?_, ?_, H.out.hs, H.out.hk, ?_, by omega⟩⟩, ?_, fun g hg => by have := hr g hg; rw [← HN.out]; omega⟩
 ·have := N2.out.set 73 (.slice A2 m c2)
  rw [HC.out, chW_set73 H.out.hs H.out.hk] at this
  rw [← HJ.out, ← HM.out]
  exact this
 ·rw [← HJ.out]
  exact O2.out.of_block fun g hg => heap_setCell_other w2 _ g _ (fun e => by have h1 := hr g hg; have h2 : g = n := e; omega)
 ·rw [← HJ.out]
  exact H.out.hrd
 ·rw [← HN.out]
  exact (B1.out.trans (B2.out.mono (by omega))).setCell (by simp) _
end Sha
end Go.Proofs.YtakdoijemopejaaGreat


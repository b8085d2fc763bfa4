/- The walk of sha.Sum: what it returns for whatever bytes. -/
import Derived.Test.YtakdoijemopejaaGreatShaSumW
set_option maxRecDepth 100000
set_option linter.unusedSimpArgs false
set_option linter.unusedVariables false
namespace Go.Proofs.YtakdoijemopejaaGreat
open Go.RowKit
namespace Sha
open Bv (n8 n16 n32 n64)
attribute [local go_sem ↓] zero42
attribute [local irreducible] K64 H8 stepL chN shaL
theorem shaL_length (M : List (BitVec 8)) : (shaL M).length = 32 := by unfold shaL; exact dig_length _
theorem Dg.zero {w : World} {D : Nat} (h : Li.Blk w D (chW zs8 zs64 false (.slice none 0 0) (.int .i64 0)) 135) : Dg w D none [] :=
 ⟨zs8, zs64, none, 0, h, Li.Os.nil _ _ _, zs8_l, zs64_l, fun h => absurd h (by simp), by simp⟩
attribute [local irreducible] chW zs8 zs64
set_option maxHeartbeats 2000000 in
theorem sha_any (M : List (BitVec 8)) (A : Option Addr) (m c : Nat) (hm : m = M.length) (hM : M.length ≤ 549755813888) (w : World) (hA : Li.Rd w A (M.map v8)) :
  Calls Tryz.prog 61 #[.slice A m c] w fun e w' => e = .returned (.agg ((shaL M).map v8).toArray) ∧ Below w.heap.size w w' := by
 obtain ⟨n, hn⟩ : ∃ n, n = w.heap.size := ⟨_, rfl⟩
 obtain ⟨R, hR⟩ : ∃ R, R = (shaL M).map v8 := ⟨_, rfl⟩
 have lR : R.length = 32 := by rw [hR, List.length_map, shaL_length]
 have oR : ∀ v ∈ R, v.oneCell' = true := by rw [hR]; exact Li.v8_one _
 have SM := Lib.hid (fun (D : Nat) (r : Option Nat) (wx : World) (h : Dg wx D r M) => sum_any D r M hM wx h)
 rw [← hR] at SM ⊢
 obtain ⟨w0, hw0⟩ : ∃ w0, w0 = (w.alloc (.cells (List.replicate 32 (v8 0#8)).toArray 34)).alloc (.cells (chW zs8 zs64 false (.slice none 0 0) (.int .i64 0)).toArray 135) := ⟨_, rfl⟩
 have z0 : Li.Blk w0 n (List.replicate 32 (v8 0#8)) 34 := by rw [hw0]; exact Li.Blk.alloc (Li.Blk.new' hn) _
 have d0 : Li.Blk w0 (n + 1) (chW zs8 zs64 false (.slice none 0 0) (.int .i64 0)) 135 := by rw [hw0]; exact Li.Blk.new' (by rw [hn]; simp only [World.size_alloc])
 have b0 : Below n w w0 := by rw [hw0]; exact (((Below.refl _ _).alloc (by rw [hn]; exact Nat.le_refl _) _).alloc (by rw [hn]; simp only [World.size_alloc]; omega) _)
 have hs0 := d0.lt
 have WR := write_any (n + 1) none [] M A m c hm (by simp; omega) w0 (Dg.zero d0) (hA.below (B := n) b0 (fun a ha hx => by
  obtain ⟨g, off, hg, hlt, _⟩ := hA.cells hx
  rw [hg] at ha; cases ha; rw [hn]; exact hlt)) (fun a ha hx => by
  obtain ⟨g, off, hg, hlt, _⟩ := hA.cells (by simpa using hx)
  rw [hg] at ha; cases ha
  show g ≠ n + 1
  omega)
 have WW := Lib.hid WR
 have Z0 := Lib.hid z0
 have B0 := Lib.hid b0
 have HN := Lib.hid hn
 have HR := Lib.hid hR
 have LR := Lib.hid lR
 have OR := Lib.hid oR
 have HW := Lib.hid hw0
 clear WR z0 d0 b0 hn hR lR oR hw0 hA hm hM
 go_enter Tryz.func61, Tryz.ntmps61
 go_wp2_with fail
 have e0 : (w.alloc (.cells (List.replicate 32 (v8 0#8)).toArray 34)).alloc (.cells (chW zs8 zs64 false (.slice none 0 0) (.int .i64 0)).toArray 135) = w0 := HW.out.symm
 show Calls Tryz.prog _ _ ((w.alloc (.cells (List.replicate 32 (v8 0#8)).toArray 34)).alloc (.cells (chW zs8 zs64 false (.slice none 0 0) (.int .i64 0)).toArray 135)) _
 rw [e0, ← HN.out]
 clear e0
 refine Calls.mono WW.out ?_
 rintro e w1 ⟨rfl, r, hD, hF, hr⟩
 rw [List.nil_append] at hD
 have hX : ∀ b, (b = n + 1 ∨ (none : Option Nat) = some b) → n + 1 ≤ b := by rintro b (h | h); omega; cases h
 have z1 := Z0.out.fr hF (by rintro (h | h); omega; cases h)
 have b1 := B0.out.trans (hF.below (B := n) (by omega) (fun b hb => by have := hX b hb; omega))
 have hs1 := hD.lt
 have PD := Lib.hid hD
 have PZ := Lib.hid z1
 have PB := Lib.hid b1
 clear hD z1 b1 hF hr hX WW
 go_wp2_with (first
  | (go_at_call 71; refine Calls.mono (SM.out _ _ _ PD.out) ?_; rintro e w2 ⟨rfl, hb2⟩)
  | (refine Li.wpList_store_blk rfl 34 _ _ rfl n (by rfl) (by rfl) (PZ.out.grow hb2) (by rw [LR.out]; rfl) (by rw [LR.out]; kernel_rfl) OR.out ?_))
 refine Li.bodyPost_blk (by rfl) (by rfl) ((PZ.out.grow hb2).setAll (by rw [LR.out]; rfl)) Tryz.underlying34 rfl (by rw [LR.out]; kernel_rfl) rfl ⟨rfl, ?_⟩
 rw [← HN.out]
 exact Li.below_setCells _ _ _ _ (PB.out.trans (hb2.mono (by omega))) (Nat.le_refl _)
end Sha
end Go.Proofs.YtakdoijemopejaaGreat


/- The walk of the reference's power. -/
import Derived.Test.YtakdoijemopejaaGreatShaRefC
import Derived.Test.YtakdoijemopejaaGreatBaseA
set_option maxRecDepth 100000
set_option linter.unusedSimpArgs false
set_option linter.unusedVariables false
namespace Go.Proofs.YtakdoijemopejaaGreat
open Go.RowKit
namespace Sha
open Bv (n8 n16 n32 n64)
def vi (n : Int) : Value := .int .i64 n
/-- One digit multiplied. -/
def mul1 (x : Int) (out : List Int) (nx : List Int) (i : Nat) : List Int := nx.set i (wrap64 (nx.getD i 0 + wrap64 (out.getD i 0 * (x % 65536))))
def mul2 (x : Int) (out : List Int) (nx : List Int) (i : Nat) : List Int := nx.set (i + 1) (wrap64 (nx.getD (i + 1) 0 + wrap64 (out.getD i 0 * (x / 65536 % 65536))))
def mul3 (x : Int) (out : List Int) (nx : List Int) (i : Nat) : List Int := nx.set (i + 2) (wrap64 (nx.getD (i + 2) 0 + wrap64 (out.getD i 0 * (x / 4294967296))))
def mulTo (x : Int) (out : List Int) : Nat → List Int
 | 0 => List.replicate (out.length + 3) 0
 | i + 1 => mul3 x out (mul2 x out (mul1 x out (mulTo x out i) i) i) i
def carTo (nx : List Int) : Nat → List Int
 | 0 => nx
 | i + 1 =>
  let a := (carTo nx i).set (i + 1) (wrap64 ((carTo nx i).getD (i + 1) 0 + wrap64 (((carTo nx i).getD i 0).tdiv 65536)))
  a.set i ((a.getD i 0).tmod 65536)
def pstep (x : Int) (out : List Int) : List Int := carTo (mulTo x out out.length) (out.length + 2)
def powL (x : Int) : Nat → List Int
 | 0 => [1]
 | k + 1 => pstep x (powL x k)
theorem mulTo_length (x : Int) (out : List Int) (i : Nat) : (mulTo x out i).length = out.length + 3 := by
 induction i with
 | zero => simp [mulTo]
 | succ i ih => simp [mulTo, mul1, mul2, mul3, ih]
theorem carTo_length (nx : List Int) (i : Nat) : (carTo nx i).length = nx.length := by
 induction i with
 | zero => rfl
 | succ i ih => simp [carTo, ih]
theorem pstep_length (x : Int) (out : List Int) : (pstep x out).length = out.length + 3 := by rw [pstep, carTo_length, mulTo_length]
theorem powL_length (x : Int) (k : Nat) : (powL x k).length = 3 * k + 1 := by
 induction k with
 | zero => rfl
 | succ k ih => rw [powL, pstep_length, ih]; omega
theorem vi_get (l : List Int) (i : Nat) (h : i < l.length) : (l.map vi)[i]? = some (.int .i64 (l.getD i 0)) := by simp [vi, h]
attribute [local irreducible] mulTo carTo powL
structure MI (n : Nat) (w : World) (m b : Nat) (L out : List Int) (wr : World) : Prop where
 nx : Li.Blk wr m (L.map vi) 3
 ou : Li.Blk wr b (out.map vi) 3
 bl : Below n w wr
 ne : b < m
 nm : n ≤ m
theorem MI.set {n : Nat} {w : World} {m b : Nat} {L out : List Int} {wr : World} (h : MI n w m b L out wr) (i : Nat) (v : Int) : MI n w m b (L.set i v) out (wr.setCell ⟨m, i, none⟩ (.int .i64 v)) :=
 ⟨by rw [List.map_set]; exact h.nx.set i _, h.ou.setOther (by have := h.ne; simp; omega) _, h.bl.setCell h.nm _, h.ne, h.nm⟩
theorem MI.drew {n : Nat} {w : World} {m b : Nat} {L out : List Int} {wr : World} (h : MI n w m b L out wr) : MI n w m b L out wr.drew := ⟨h.nx, h.ou, h.bl.drew, h.ne, h.nm⟩
set_option maxRecDepth 100000 in
set_option maxHeartbeats 4000000 in
theorem power_any (x : Int) (h0 : 0 ≤ x) (hx : x < 137438953472) (d : Nat) (hd : d ≤ 3) (w : World) :
  Calls Tryz.prog 90 #[.int .i64 x, .int .i64 (d : Int)] w fun e w' => ∃ b cap, e = .returned (.slice (some ⟨b, 0, none⟩) (powL x d).length cap) ∧ Li.Blk w' b ((powL x d).map vi) 3 ∧ Below w.heap.size w w' := by
 obtain ⟨n, hn⟩ : ∃ n, n = w.heap.size := ⟨_, rfl⟩
 have p1 : powL x 0 = [1] := by rw [powL]
 have P1 := Lib.hid p1
 clear p1
 go_enter Tryz.func90, Tryz.ntmps90
 go_wp2_with fail
 have B0 : Li.Blk (w.alloc (.cells [vi 1].toArray 3)) n ((powL x 0).map vi) 3 := by subst hn; rw [P1.out]; exact Li.Blk.new' rfl
 have BB : Below n w (w.alloc (.cells [vi 1].toArray 3)) := by subst hn; exact (Below.refl _ _).alloc (Nat.le_refl _) _
 have HN := Lib.hid hn
 rw [← hn]
 clear hn
 go_loopg [5, 6] d (fun gh s5 s6 wr => ∃ (k b cap : Nat), gh = d - k ∧ k ≤ d ∧ s5 = .slice (some ⟨b, 0, none⟩) (powL x k).length cap ∧ s6 = .int .i64 k ∧ Li.Blk wr b ((powL x k).map vi) 3 ∧ Below n w wr)
 case atStart => exact ⟨0, n, 1, rfl, by omega, by rw [P1.out]; rfl, rfl, B0, BB⟩
 case round =>
  clear B0 BB
  obtain ⟨k, b, cap, rfl, hk, rfl, rfl, hB, hb⟩ := hrel
  obtain ⟨out, ho⟩ : ∃ out, out = powL x k := ⟨_, rfl⟩
  have lo : out.length = 3 * k + 1 := by rw [ho]; exact powL_length x k
  rw [← ho]
  rw [← ho] at hB
  have HO := Lib.hid ho
  clear ho
  by_cases hlt : k < d
  ·have hlen : out.length ≤ 10 := by omega
   have hmk := fun wx => Li.run_makeN (P := Tryz.prog) (t := 115) (e := 3) (z := .int .i64 0) (bytes := 8) Tryz.underlying115 (by kernel_rfl) rfl (out.length + 3) (m := (out.length : Int) + 3) (by omega) (by omega) (by omega) wx
   have LO := Lib.hid lo
   clear lo
   go_upto_block 3 with fail
   have I0 : MI n w wr.heap.size b (mulTo x out 0) out (wr.alloc (.cells (List.replicate (out.length + 3) (.int .i64 0)).toArray 3)) :=
    ⟨by rw [mulTo, List.map_replicate]; exact Li.Blk.new' rfl, hB.alloc _, hb.alloc (by rw [HN.out]; exact hb.size) _, hB.lt, by rw [HN.out]; exact hb.size⟩
   rw [← List.toArray_replicate]
   obtain ⟨m, hm⟩ : ∃ m, m = wr.heap.size := ⟨_, rfl⟩
   rw [← hm] at I0
   rw [← hm]
   clear hB hb hmk hm
   obtain ⟨wo, rfl⟩ : ∃ wo : World, wo = wr := ⟨_, rfl⟩
   go_loopg [8] out.length (fun gh s8 wr => ∃ i : Nat, gh = out.length - i ∧ i ≤ out.length ∧ s8 = .int .i64 i ∧ MI n w m b (mulTo x out i) out wr)
   case atStart => exact ⟨0, rfl, by omega, rfl, I0⟩
   case round =>
    clear I0
    obtain ⟨i, rfl, hi, rfl, hI⟩ := hrel
    by_cases hil : i < out.length
    ·have hd8 : decide ((i : Int) < (out.length : Int)) = true := decide_eq_true (by omega)
     go_upto_region 9 with fail
     go_cut [] (fun wx => MI n w m b (mul1 x out (mulTo x out i) i) out wx)
     case first =>
      have cn := (hI.nx.cell i).trans (vi_get _ _ (by rw [mulTo_length]; omega))
      have co := (hI.ou.cell i).trans (vi_get _ _ hil)
      have fn := hI.nx.frozen i
      have i1 : (i : Int) < (out.length : Int) := by omega
      have i3 : (i : Int) < (out.length : Int) + 3 := by omega
      go_wp2_with fail
      go_still_tail 13, (by kernel_rfl)
      go_wp2_with fail
      go_meet
      have := (hI.set i (wrap64 ((mulTo x out i).getD i 0 + wrap64 (out.getD i 0 * (x % 65536))))).drew
      simpa [mul1, hil] using this
     case rest =>
      have i1 : (i : Int) < (out.length : Int) := by omega
      clear hI
      go_upto_region 10 with fail
      go_cut [] (fun wx => MI n w m b (mul2 x out (mul1 x out (mulTo x out i) i) i) out wx)
      case first =>
       have ml : (mul1 x out (mulTo x out i) i).length = out.length + 3 := by unfold mul1; rw [List.length_set, mulTo_length]
       have cn := (hcut.nx.cell (i + 1)).trans (vi_get _ _ (by rw [ml]; omega))
       have co := (hcut.ou.cell i).trans (vi_get _ _ hil)
       have fn := hcut.nx.frozen (i + 1)
       have w1 : IntKind.i64.wrap ((i : Int) + 1) = (i : Int) + 1 := IntWalk.i64_in _ (by omega)
       have i3 : (i : Int) + 1 < (out.length : Int) + 3 := by omega
       have i4 : (0 : Int) ≤ (i : Int) + 1 := by omega
       have t1 : ((i : Int) + 1).toNat = i + 1 := by omega
       generalize hA : mul1 x out (mulTo x out i) i = A at hcut cn
       have HA := Lib.hid hA
       clear hA ml
       go_wp2_with fail
       go_still_tail 15, (by kernel_rfl)
       go_wp2_with fail
       go_meet
       have := (hcut.set (i + 1) (wrap64 (A.getD (i + 1) 0 + wrap64 (out.getD i 0 * (x / 65536 % 65536))))).drew
       rw [HA.out]
       simpa [mul2, hil] using this
      case rest =>
       have ml : (mul2 x out (mul1 x out (mulTo x out i) i) i).length = out.length + 3 := by unfold mul2 mul1; rw [List.length_set, List.length_set, mulTo_length]
       have cn := (hcut.nx.cell (i + 2)).trans (vi_get _ _ (by rw [ml]; omega))
       have co := (hcut.ou.cell i).trans (vi_get _ _ hil)
       have fn := hcut.nx.frozen (i + 2)
       have w1 : IntKind.i64.wrap ((i : Int) + 2) = (i : Int) + 2 := IntWalk.i64_in _ (by omega)
       have i3 : (i : Int) + 2 < (out.length : Int) + 3 := by omega
       have i4 : (0 : Int) ≤ (i : Int) + 2 := by omega
       have t1 : ((i : Int) + 2).toNat = i + 2 := by omega
       generalize hA : mul2 x out (mul1 x out (mulTo x out i) i) i = A at hcut cn
       have HA := Lib.hid hA
       clear hA ml
       go_wp2_with fail
       go_still_tail 14, (by kernel_rfl)
       go_wp2_with fail
       go_roundg (out.length - (i + 1))
       case measure => omega
       case rel =>
        refine ⟨i + 1, rfl, by omega, by go_num, ?_⟩
        have := (hcut.set (i + 2) (wrap64 (A.getD (i + 2) 0 + wrap64 (out.getD i 0 * (x / 4294967296))))).drew
        rw [mulTo, HA.out]
        simpa [mul3, hil] using this
    ·have ei : i = out.length := by omega
     subst ei
     obtain ⟨wo2, rfl⟩ : ∃ wo : World, wo = wr := ⟨_, rfl⟩
     go_wp2_with fail
     go_loopg [9] (out.length + 2) (fun gh s9 wr => ∃ j : Nat, gh = out.length + 2 - j ∧ j ≤ out.length + 2 ∧ s9 = .int .i64 j ∧ MI n w m b (carTo (mulTo x out out.length) j) out wr)
     case atStart => exact ⟨0, rfl, by omega, rfl, by rw [carTo]; exact hI⟩
     case round =>
      clear hI
      obtain ⟨j, rfl, hj, rfl, hI⟩ := hrel
      by_cases hjl : j < out.length + 2
      ·have cl : (carTo (mulTo x out out.length) j).length = out.length + 3 := by rw [carTo_length, mulTo_length]
       have cj := (hI.nx.cell j).trans (vi_get _ _ (by rw [cl]; omega))
       have cj1 := (hI.nx.cell (j + 1)).trans (vi_get _ _ (by rw [cl]; omega))
       have f1 := hI.nx.frozen (j + 1)
       have f0 := hI.nx.frozen j
       have w1 : IntKind.i64.wrap ((j : Int) + 1) = (j : Int) + 1 := IntWalk.i64_in _ (by omega)
       have i1 : (j : Int) + 1 < (out.length : Int) + 3 := by omega
       have i2 : (j : Int) < (out.length : Int) + 3 := by omega
       have i4 : (0 : Int) ≤ (j : Int) + 1 := by omega
       have t1 : ((j : Int) + 1).toNat = j + 1 := by omega
       generalize hA : carTo (mulTo x out out.length) j = A at hI cj cj1 cl
       have HA := Lib.hid hA
       have CL := Lib.hid cl
       clear hA cl
       go_upto_region 15 with fail
       go_cut [] (fun wx => MI n w m b (A.set (j + 1) (wrap64 (A.getD (j + 1) 0 + wrap64 ((A.getD j 0).tdiv 65536)))) out wx)
       case first =>
        go_wp2_with fail
        go_still_tail 12, (by kernel_rfl)
        go_wp2_with fail
        go_meet
        simpa using (hI.set (j + 1) (wrap64 (A.getD (j + 1) 0 + wrap64 ((A.getD j 0).tdiv 65536)))).drew
       case rest =>
        clear hI cj cj1 f1 f0
        have c2 := (hcut.nx.cell j).trans (vi_get _ _ (by rw [List.length_set, CL.out]; omega))
        have f2 := hcut.nx.frozen j
        have e : carTo (mulTo x out out.length) (j + 1) = (A.set (j + 1) (wrap64 (A.getD (j + 1) 0 + wrap64 ((A.getD j 0).tdiv 65536)))).set j (((A.set (j + 1) (wrap64 (A.getD (j + 1) 0 + wrap64 ((A.getD j 0).tdiv 65536)))).getD j 0).tmod 65536) := by rw [carTo, HA.out]
        generalize A.set (j + 1) (wrap64 (A.getD (j + 1) 0 + wrap64 ((A.getD j 0).tdiv 65536))) = A2 at hcut c2 e
        have E2 := Lib.hid e
        clear e
        generalize hy : A2.getD j 0 = y at c2
        have HY := Lib.hid hy
        clear hy
        go_wp2_with fail
        go_roundg (out.length + 2 - (j + 1))
        case measure => omega
        case rel =>
         refine ⟨j + 1, rfl, by omega, by go_num, ?_⟩
         rw [E2.out, HY.out]
         exact hcut.set j (y.tmod 65536)
      ·have ej : j = out.length + 2 := by omega
       subst ej
       have e : powL x (k + 1) = carTo (mulTo x out out.length) (out.length + 2) := by rw [powL, ← HO.out, pstep]
       have e3 : (powL x (k + 1)).length = out.length + 3 := by rw [e, carTo_length, mulTo_length]
       have E := Lib.hid e
       have E3 := Lib.hid e3
       clear e e3
       go_wp2_with fail
       go_roundg (d - (k + 1))
       case measure => omega
       case rel => exact ⟨k + 1, m, out.length + 3, rfl, by omega, by rw [E3.out], by go_num, by rw [E.out]; exact hI.nx, hI.bl⟩
  ·have ek : k = d := by omega
   subst ek
   go_wp2_with fail
   go_ret
   exact ⟨b, cap, by rw [← HO.out]; rfl, by rw [← HO.out]; exact hB, by rw [← HN.out]; exact hb⟩
end Sha
end Go.Proofs.YtakdoijemopejaaGreat


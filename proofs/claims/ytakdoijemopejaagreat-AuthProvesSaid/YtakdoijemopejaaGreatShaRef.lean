/- The walk of the reference's step. -/
import Derived.Test.YtakdoijemopejaaGreatShaStep
import Derived.Test.YtakdoijemopejaaGreatQuiet
set_option maxRecDepth 100000
set_option linter.unusedSimpArgs false
set_option linter.unusedVariables false
namespace Go.Proofs.YtakdoijemopejaaGreat
open Go.RowKit
namespace Sha
open Bv (n8 n16 n32 n64)
attribute [local go_sem ↓] Bv.xor_n32 Bv.and_n32 Bv.or_n32 Bv.add_n32 Bv.sub_n32 Bv.mul_n32 Bv.shl_n32 Bv.shr_n32
attribute [local go_sem] Bv.of_n32 Bv.of_n64 Bv.wrap_n32_of Bv.of32_n8
theorem rrotr_int (x : BitVec 32) (n : Int) (w : World) (h : 0 ≤ n) (h2 : n ≤ 32) :
  Calls Tryz.prog 81 #[.int .u32 (n32 x), .int .i64 n] w fun e w' => e = .returned (.int .u32 (n32 (ror x n.toNat))) ∧ ∃ m, w' = w.drewN m := by
 obtain ⟨m, rfl⟩ := Int.eq_ofNat_of_zero_le h
 exact rrotr_any x m w (by omega)
/-- The first j bytes of word i. -/
def part (bs : List (BitVec 8)) (i : Nat) : Nat → BitVec 32
 | 0 => 0#32
 | j + 1 => part bs i j * 256#32 + (bs.getD (4 * i + j) 0).setWidth 32
theorem byte_step (x : BitVec 32) (b : BitVec 8) : x * 256#32 + b.setWidth 32 = x <<< 8 ||| b.setWidth 32 := by
 have e : x * 256#32 = x <<< 8 := by
  have := BitVec.shiftLeft_eq_mul_twoPow x 8
  rw [this]; rfl
 rw [e]
 apply BitVec.add_eq_or_of_and_eq_zero
 ext i hi
 simp
 intro h1 _
 exact BitVec.getLsbD_of_ge _ _ (by omega)
theorem part_word (bs : List (BitVec 8)) (i : Nat) : part bs i 4 = word bs i := by
 unfold part part part part part word
 simp only [byte_step, BitVec.shiftLeft_or_distrib, Nat.add_zero, ← BitVec.shiftLeft_add, BitVec.zero_shiftLeft, BitVec.zero_or, Nat.reduceAdd]
theorem rotx2 (x : BitVec 32) (a b : Nat) : rotx x [a, b] = ror x a ^^^ ror x b := by
 unfold rotx; simp
theorem rotx3 (x : BitVec 32) (a b c : Nat) : rotx x [a, b, c] = ror x a ^^^ ror x b ^^^ ror x c := by
 unfold rotx; simp
theorem eight (s : List (BitVec 32)) (h : s.length = 8) : ∃ a b c d e f g h, s = [a, b, c, d, e, f, g, h] := by
 match s, h with
 | [a, b, c, d, e, f, g, h], _ => exact ⟨a, b, c, d, e, f, g, h, rfl⟩
theorem rnd_ref (a b c d e f g h k w : BitVec 32) : rnd [a, b, c, d, e, f, g, h] k w =
  [h + (ror e 6 ^^^ ror e 11 ^^^ ror e 25) + (e &&& f ^^^ (4294967295#32 - e) &&& g) + k + w + ((ror a 2 ^^^ ror a 13 ^^^ ror a 22) + (a &&& b ^^^ a &&& c ^^^ b &&& c)), a, b, c, d + (h + (ror e 6 ^^^ ror e 11 ^^^ ror e 25) + (e &&& f ^^^ (4294967295#32 - e) &&& g) + k + w), e, f, g] := by
 have e1 : 4294967295#32 - e = 4294967295#32 ^^^ e := by
  have : 4294967295#32 = BitVec.allOnes 32 := rfl
  rw [this, BitVec.allOnes_sub_eq_not]
  exact BitVec.not_def
 rw [e1, ← rotx3, ← rotx3]
 rfl
theorem nextW_eq (l : List (BitVec 32)) (i : Nat) : nextW l i = (ror (l.getD (i - 2) 0) 17 ^^^ ror (l.getD (i - 2) 0) 19 ^^^ l.getD (i - 2) 0 >>> 10) + l.getD (i - 7) 0 + (ror (l.getD (i - 15) 0) 7 ^^^ ror (l.getD (i - 15) 0) 18 ^^^ l.getD (i - 15) 0 >>> 3) + l.getD (i - 16) 0 := by
 unfold nextW
 rw [rotx2, rotx2]
attribute [local irreducible] sched rnds stepL rotx ror part word nextW
structure RInv (n : Nat) (ks s : List (BitVec 32)) (w : World) (L : List Value) (wr : World) : Prop where
 s0 : Li.Blk wr n (s.map v32) 126
 k : Li.Blk wr (n + 1) (ks.map v32) 125
 r : Li.Blk wr (n + 2) (List.replicate 8 (v32 0#32)) 126
 wd : Li.Blk wr (n + 3) L 125
 b : Below n w wr
theorem RInv.drew {n : Nat} {ks s : List (BitVec 32)} {w wr : World} {L : List Value} (h : RInv n ks s w L wr) : RInv n ks s w L wr.drew := ⟨h.s0, h.k, h.r, h.wd, h.b.drew⟩
theorem RInv.drewN {n : Nat} {ks s : List (BitVec 32)} {w wr : World} {L : List Value} (h : RInv n ks s w L wr) (m : Nat) : RInv n ks s w L (wr.drewN m) := ⟨h.s0, h.k, h.r, h.wd, Li.below_drewN h.b m⟩
theorem RInv.ext {n : Nat} {ks s : List (BitVec 32)} {w wr wx : World} {L : List Value} (h : RInv n ks s w L wr) (e : Hv.Ext wr wx) : RInv n ks s w L wx :=
 ⟨h.s0.grow e, h.k.grow e, h.r.grow e, h.wd.grow e, h.b.trans (e.mono (by have := h.wd.lt; omega))⟩
theorem RInv.setCells {n : Nat} {ks s : List (BitVec 32)} {w wr : World} {L : List Value} (h : RInv n ks s w L wr) {m : Nat} (hm : n + 3 < m) (vs : List Value) : RInv n ks s w L (wr.setCells m 0 vs) :=
 ⟨h.s0.setCellsOther (by omega) _ _, h.k.setCellsOther (by omega) _ _, h.r.setCellsOther (by omega) _ _, h.wd.setCellsOther (by omega) _ _, Li.below_setCells _ _ _ _ h.b (by omega)⟩
theorem RInv.set {n : Nat} {ks s : List (BitVec 32)} {w wr : World} {L : List Value} (h : RInv n ks s w L wr) (i : Nat) (v : Value) : RInv n ks s w (L.set i v) (wr.setCell ⟨n + 3, i, none⟩ v) :=
 ⟨h.s0.setOther (by simp) _, h.k.setOther (by simp) _, h.r.setOther (by simp) _, h.wd.set i v, h.b.setCell (by simp) _⟩
def IsB (w : World) (g off : Nat) (bs : List (BitVec 8)) : Prop := ∀ i, i < bs.length → w.cell? ⟨g, off + i, none⟩ = some (.int .u8 (n8 (bs.getD i 0)))
theorem IsB.lt {w : World} {g off : Nat} {bs : List (BitVec 8)} (h : IsB w g off bs) (h0 : 0 < bs.length) : g < w.heap.size := World.block_lt_of_cell? _ _ (h 0 h0)
theorem IsB.below {w wr : World} {g off B : Nat} {bs : List (BitVec 8)} (h : IsB w g off bs) (hb : Below B w wr) (hg : g < B) : IsB wr g off bs := fun i hi => (hb.cell (p := ⟨g, off + i, none⟩) hg).trans (h i hi)
/-- The words so far, and one that is being read. -/
def row64p (l : List (BitVec 32)) (x : BitVec 32) : List Value := (row64 l).set l.length (v32 x)
theorem row64p_get (l : List (BitVec 32)) (h : l.length < 64) (x : BitVec 32) : (row64p l x)[l.length]? = some (.int .u32 (n32 x)) := by
 unfold row64p; rw [List.getElem?_set_self (by rw [row64_length _ (by omega)]; exact h)]; rfl
theorem row64p_set (l : List (BitVec 32)) (x y : BitVec 32) : (row64p l x).set l.length (.int .u32 (n32 y)) = row64p l y := by
 unfold row64p; rw [List.set_set]; rfl
theorem row64p_zero (l : List (BitVec 32)) (h : l.length < 64) : row64p l 0#32 = row64 l := by
 unfold row64p
 apply List.ext_getElem?
 intro i
 by_cases hi : i = l.length
 ·subst hi
  rw [List.getElem?_set_self (by rw [row64_length _ (by omega)]; exact h), row64_get l l.length h]
  simp [v32]
 ·rw [List.getElem?_set_ne (fun e => hi e.symm)]
theorem row64p_full (l : List (BitVec 32)) (h : l.length < 64) (x : BitVec 32) : row64p l x = row64 (l ++ [x]) := row64_set l h x
set_option maxRecDepth 100000 in
set_option maxHeartbeats 1600000 in
theorem rstep_any (ks s : List (BitVec 32)) (bs : List (BitVec 8)) (hks : ks.length = 64) (hs : s.length = 8) (hbs : bs.length = 64) (g off cap : Nat) (w : World) (hB : IsB w g off bs) :
  Calls Tryz.prog 68 #[.agg (s.map v32).toArray, .slice (some ⟨g, off, none⟩) 64 cap, .agg (ks.map v32).toArray] w fun e w' => e = .returned (.agg ((stepL ks s bs).map v32).toArray) ∧ Below w.heap.size w w' := by
 have ls := Lib.hid (map32_length hs)
 have H64 := Lib.hid hbs
 have Hs := Lib.hid hs
 have Hk := Lib.hid hks
 have hg := hB.lt (by omega)
 clear hbs hs hks
 obtain ⟨n, hn⟩ : ∃ n, n = w.heap.size := ⟨_, rfl⟩
 go_enter Tryz.func68, Tryz.ntmps68
 go_wp2_with fail
 have R0 : RInv n ks s w (row64 []) ((((w.alloc (.cells (s.map v32).toArray 126)).alloc (.cells (ks.map v32).toArray 125)).alloc (.cells (List.replicate 8 (v32 0#32)).toArray 126)).alloc (.cells (row64 []).toArray 125)) := by
  subst hn
  refine ⟨?_, ?_, ?_, ?_, ?_⟩
  ·repeat (first | exact Li.Blk.new' (by simp) | refine Li.Blk.alloc ?_ _)
  ·refine Li.Blk.alloc (Li.Blk.alloc ?_ _) _
   exact Li.Blk.new' (by simp)
  ·refine Li.Blk.alloc ?_ _
   exact Li.Blk.new' (by simp)
  ·exact Li.Blk.new' (by simp)
  ·exact ((((Below.refl _ _).alloc (Nat.le_refl _) _).alloc (by simp only [World.size_alloc]; omega) _).alloc (by simp only [World.size_alloc]; omega) _).alloc (by simp only [World.size_alloc]; omega) _
 have HN := Lib.hid hn
 rw [← hn] at hg
 rw [← hn]
 clear hn
 simp only [Nat.add_assoc, Nat.reduceAdd]
 go_loopg [8, 9] 16 (fun gh s8 _ wr => ∃ i : Nat, gh = 16 - i ∧ i ≤ 16 ∧ s8 = .int .i64 i ∧ RInv n ks s w (row64 (sched bs i)) wr)
 case atStart => exact ⟨0, rfl, by omega, rfl, by rw [sched]; exact R0⟩
 case round =>
  clear R0
  obtain ⟨i, rfl, hi, rfl, hI⟩ := hrel
  by_cases hlt : i < 16
  ·have hd : decide ((i : Int) < 16) = true := decide_eq_true (by omega)
   go_upto_block 1 with fail
   go_cut [] (fun wx => RInv n ks s w (row64 (sched bs (i + 1))) wx)
   case first =>
    obtain ⟨wo, rfl⟩ : ∃ wo : World, wo = wr := ⟨_, rfl⟩
    go_wp2_with fail
    go_loopg [9] 4 (fun gh s9 wr => ∃ j : Nat, gh = 4 - j ∧ j ≤ 4 ∧ s9 = .int .i64 j ∧ RInv n ks s w (row64p (sched bs i) (part bs i j)) wr)
    case atStart => exact ⟨0, rfl, by omega, rfl, by rw [part, row64p_zero _ (by rw [sched_length]; omega)]; exact hI⟩
    case round =>
     clear hI
     obtain ⟨j, rfl, hj, rfl, hI⟩ := hrel
     by_cases hj4 : j < 4
     ·have hb := (hB.below hI.b hg) (4 * i + j) (by rw [H64.out]; omega)
      have hw := hI.wd.cell i
      have := row64p_get (sched bs i) (by rw [sched_length]; omega) (part bs i j)
      rw [sched_length] at this
      rw [this] at hw
      have hf := hI.wd.frozen i
      have q2 : (i : Int) < 64 := by omega
      have q1 : 4 * (i : Int) + (j : Int) < 64 := by omega
      have q0 : (0 : Int) ≤ 4 * (i : Int) + (j : Int) := by omega
      have v1 : IntKind.i64.wrap (4 * (i : Int)) = 4 * (i : Int) := IntWalk.i64_in _ (by omega)
      have v2 : IntKind.i64.wrap (4 * (i : Int) + (j : Int)) = 4 * (i : Int) + (j : Int) := IntWalk.i64_in _ (by omega)
      have v3 : (4 * (i : Int) + (j : Int)).toNat = 4 * i + j := by omega
      have st := row64p_set (sched bs i) (part bs i j) (part bs i (j + 1))
      rw [sched_length] at st
      have ep : part bs i (j + 1) = part bs i j * 256#32 + (bs.getD (4 * i + j) 0).setWidth 32 := by rw [part]
      have ST := Lib.hid st
      have EP := Lib.hid ep
      clear st ep this
      generalize hx : part bs i j = x at hw
      generalize hy : bs.getD (4 * i + j) 0 = y at hb
      have HX := Lib.hid hx
      have HY := Lib.hid hy
      clear hx hy
      go_wp2_with fail
      go_still_tail 15, (by kernel_rfl)
      go_wp2_with fail
      go_roundg (4 - (j + 1))
      case measure => omega
      case rel =>
       refine ⟨j + 1, rfl, by omega, by go_num, ?_⟩
       have := (hI.set i (.int .u32 (n32 (x * 256#32 + y.setWidth 32)))).drew
       rw [← HX.out, ← HY.out, ← EP.out, ST.out] at this
       rw [← HX.out, ← HY.out, ← EP.out]
       exact this
     ·have ej : j = 4 := by omega
      subst ej
      go_wp2_with fail
      go_meet
      rw [part_word, row64p_full _ (by rw [sched_length]; omega)] at hI
      rw [sched, if_pos hlt]
      exact hI
   case rest =>
    go_wp2_with fail
    go_roundg (16 - (i + 1))
    case measure => omega
    case rel => exact ⟨i + 1, rfl, by omega, by go_num, hcut⟩
  ·have ei : i = 16 := by omega
   subst ei
   go_wp2_with fail
   go_loopg [10] 48 (fun gh s10 wr => ∃ k : Nat, gh = 64 - k ∧ 16 ≤ k ∧ k ≤ 64 ∧ s10 = .int .i64 k ∧ RInv n ks s w (row64 (sched bs k)) wr)
   case atStart => exact ⟨16, rfl, by omega, by omega, rfl, hI⟩
   case round =>
    clear hI
    obtain ⟨k, rfl, hk16, hk, rfl, hI⟩ := hrel
    by_cases hlt : k < 64
    ·have d15 := (hI.wd.cell (k - 15)).trans (row64_get (sched bs k) (k - 15) (by omega))
     have d2 := (hI.wd.cell (k - 2)).trans (row64_get (sched bs k) (k - 2) (by omega))
     have d7 := (hI.wd.cell (k - 7)).trans (row64_get (sched bs k) (k - 7) (by omega))
     have d16 := (hI.wd.cell (k - 16)).trans (row64_get (sched bs k) (k - 16) (by omega))
     have cK := (hI.wd.cell k).trans (row64_get (sched bs k) k hlt)
     have fK := hI.wd.frozen k
     have kl : (k : Int) < 64 := by omega
     have e15 : (15 : Int) ≤ k := by omega
     have e2 : (2 : Int) ≤ k := by omega
     have e7 : (7 : Int) ≤ k := by omega
     have e16 : (16 : Int) ≤ k := by omega
     have w15 : IntKind.i64.wrap ((k : Int) - 15) = (k : Int) - 15 := IntWalk.i64_in _ (by omega)
     have w2 : IntKind.i64.wrap ((k : Int) - 2) = (k : Int) - 2 := IntWalk.i64_in _ (by omega)
     have w7 : IntKind.i64.wrap ((k : Int) - 7) = (k : Int) - 7 := IntWalk.i64_in _ (by omega)
     have w16 : IntKind.i64.wrap ((k : Int) - 16) = (k : Int) - 16 := IntWalk.i64_in _ (by omega)
     have j15 : (k : Int) - 15 < 64 := by omega
     have j2 : (k : Int) - 2 < 64 := by omega
     have j7 : (k : Int) - 7 < 64 := by omega
     have j16 : (k : Int) - 16 < 64 := by omega
     have t15 : ((k : Int) - 15).toNat = k - 15 := by omega
     have t2 : ((k : Int) - 2).toNat = k - 2 := by omega
     have t7 : ((k : Int) - 7).toNat = k - 7 := by omega
     have t16 : ((k : Int) - 16).toNat = k - 16 := by omega
     generalize hx15 : (sched bs k).getD (k - 15) 0 = x15 at d15
     generalize hx2 : (sched bs k).getD (k - 2) 0 = x2 at d2
     generalize hx7 : (sched bs k).getD (k - 7) 0 = x7 at d7
     generalize hx16 : (sched bs k).getD (k - 16) 0 = x16 at d16
     have HX15 := Lib.hid hx15
     have HX2 := Lib.hid hx2
     have HX7 := Lib.hid hx7
     have HX16 := Lib.hid hx16
     clear hx15 hx2 hx7 hx16
     go_wp2_with fail
     go_quiet ((go_at_call 81; exact Calls.quiet_of (rrotr_int _ _ _ (by omega) (by omega))))
     go_wp2_with fail
     go_quiet ((go_at_call 81; exact Li.quiet_add (rrotr_int _ _ _ (by omega) (by omega))))
     go_wp2_with fail
     have nk : n + 3 < wr.heap.size := hI.wd.lt
     refine Hv.grow 15 (fun _ => none) (fun _ => []) (by kernel_rfl) (by kernel_rfl) (fun _ _ h => by cases h) ?_
     ·change Hv.HW _ _ _ _ _ _ _ [0, 1, 2, 3, 4, 5, 6, 7, 8, 9, 10, 11, 12, 13, 14] _ _
      iterate 15 (refine Hv.pure (v := ?_) (by rfl) (by rfl) (by rfl) (fun wx hS => ?_) ?_; rotate_left; (focus (have hc := hS.undrewN.undrewN.cells.1; have hz := hS.undrewN.undrewN.cells.2; go_simp; (first | done | with_reducible rfl))); (try simp only [Act.put, List.setIfInBounds_toArray, List.set_cons_zero, List.set_cons_succ]))
      refine Hv.done (fun wx hS _ => ?_)
      simp only [List.drop_succ_cons, List.drop_zero]
      have hc := hS.undrewN.undrewN.cells.1
      have hz := hS.undrewN.undrewN.cells.2
      have hI3 := hI.ext hS.undrewN.undrewN
      go_wp2_with fail
      go_roundg (64 - (k + 1))
      case measure => omega
      case rel =>
       refine ⟨k + 1, rfl, by omega, by omega, by go_num, ?_⟩
       have st := row64_set (sched bs k) (by rw [sched_length]; omega) (nextW (sched bs k) k)
       rw [sched_length] at st
       rw [sched, if_neg (by omega), ← st, nextW_eq, HX15.out, HX2.out, HX7.out, HX16.out]
       exact hI3.set k _
    ·have ek : k = 64 := by omega
     subst ek
     have hf : row64 (sched bs 64) = (sched bs 64).map v32 := by
      unfold row64; rw [sched_length]; simp
     rw [hf] at hI
     clear hf
     generalize hws : sched bs 64 = ws at hI
     have lw : ws.length = 64 := by rw [← hws]; exact sched_length bs 64
     have HW := Lib.hid hws
     have HL := Lib.hid lw
     clear hws lw
     obtain ⟨wo, rfl⟩ : ∃ wo : World, wo = wr := ⟨_, rfl⟩
     have hm := hI.wd.lt
     go_wp2_with (first
      | (refine Li.wpList_load_blk rfl 126 (.tmp 3) rfl n rfl hI.s0 Tryz.underlying126 rfl ?_ ?_; (rw [ls.out]; kernel_rfl))
      | (refine Li.wpList_store_blk rfl 126 (.tmp 13) (.tmp 97) rfl wo.heap.size rfl rfl (l := List.replicate 8 (v32 0#32)) (t := 126) ?_ ?_ ?_ (map32_one s) ?_; exact Li.Blk.new' (by simp); (rw [ls.out]; rfl); (rw [ls.out]; kernel_rfl)))
     have hA : Li.Blk ((wo.alloc (.cells (List.replicate 8 (v32 0#32)).toArray 126)).setCells wo.heap.size 0 (s.map v32)) wo.heap.size (s.map v32) 126 := Li.Blk.setAll (l := List.replicate 8 (v32 0#32)) (Li.Blk.new' rfl) (by rw [ls.out]; rfl)
     have hI2 : RInv n ks s w (ws.map v32) ((wo.alloc (.cells (List.replicate 8 (v32 0#32)).toArray 126)).setCells wo.heap.size 0 (s.map v32)) :=
      ⟨(hI.s0.alloc _).setCellsOther (by omega) _ _, (hI.k.alloc _).setCellsOther (by omega) _ _, (hI.r.alloc _).setCellsOther (by omega) _ _, (hI.wd.alloc _).setCellsOther (by omega) _ _, Li.below_setCells _ _ _ _ (hI.b.alloc (by omega) _) (by omega)⟩
     clear hI
     generalize hmm : wo.heap.size = m at hA hI2 hm
     have HM := Lib.hid hmm
     go_loopg [14] 64 (fun gh s14 wr => ∃ (k : Nat) (a b c d e f g h : BitVec 32), gh = 64 - k ∧ k ≤ 64 ∧ s14 = .int .i64 k ∧ Hid (rnds ks ws s k = [a, b, c, d, e, f, g, h]) ∧ Li.Blk wr m ([a, b, c, d, e, f, g, h].map v32) 126 ∧ RInv n ks s w (ws.map v32) wr)
     case atStart =>
      obtain ⟨a, b, c, d, e, f, g1, h, he⟩ := eight s Hs.out
      exact ⟨0, a, b, c, d, e, f, g1, h, rfl, by omega, rfl, Lib.hid (by rw [rnds]; exact he), by rw [← he]; exact hA, hI2⟩
     case round =>
      clear hA hI2
      obtain ⟨k, a, b, c, d, e, f, g1, h, rfl, hk, rfl, hR, hA, hI⟩ := hrel
      have c0 := (hA.cell 0).trans (show _ = some (.int .u32 (n32 a)) from rfl)
      have c1 := (hA.cell 1).trans (show _ = some (.int .u32 (n32 b)) from rfl)
      have c2 := (hA.cell 2).trans (show _ = some (.int .u32 (n32 c)) from rfl)
      have c3 := (hA.cell 3).trans (show _ = some (.int .u32 (n32 d)) from rfl)
      have c4 := (hA.cell 4).trans (show _ = some (.int .u32 (n32 e)) from rfl)
      have c5 := (hA.cell 5).trans (show _ = some (.int .u32 (n32 f)) from rfl)
      have c6 := (hA.cell 6).trans (show _ = some (.int .u32 (n32 g1)) from rfl)
      have c7 := (hA.cell 7).trans (show _ = some (.int .u32 (n32 h)) from rfl)
      by_cases hlt : k < 64
      ·have ck := (hI.k.cell k).trans (show _ = some (.int .u32 (n32 (ks.getD k 0))) from by simp [v32, Hk.out, hlt])
       have cw := (hI.wd.cell k).trans (show _ = some (.int .u32 (n32 (ws.getD k 0))) from by simp [v32, HL.out, hlt])
       have kl : (k : Int) < 64 := by omega
       generalize hkk : ks.getD k 0 = kk at ck
       generalize hww : ws.getD k 0 = ww at cw
       have HKK := Lib.hid hkk
       have HWW := Lib.hid hww
       clear hkk hww
       go_wp2_with fail
       go_quiet ((go_at_call 81; exact Calls.quiet_of (rrotr_int _ _ _ (by omega) (by omega))))
       go_wp2_with fail
       go_quiet ((go_at_call 81; exact Li.quiet_add (rrotr_int _ _ _ (by omega) (by omega))))
       go_wp2_with ((with_reducible show wpList _ _ _ (⟨none, _, _, _, _, _⟩ :: _) _ _); (refine Li.wpList_store_blk rfl 126 (.tmp 13) (.tmp 184) rfl m (vs := _) (by rfl) (by rfl) (l := [a, b, c, d, e, f, g1, h].map v32) (t := 126) ?_ ?_ ?_ ?_ ?_; (first | exact hA.drewN _ | exact (hA.drewN _).drewN _); rfl; kernel_rfl; (intro v hv; simp at hv; rcases hv with rfl | rfl | rfl | rfl | rfl | rfl | rfl | rfl <;> rfl)))
       go_roundg (64 - (k + 1))
       case measure => omega
       case rel =>
        refine ⟨k + 1, _, a, b, c, _, e, f, g1, rfl, by omega, by go_num, Lib.hid (by rw [rnds, hR.out, HKK.out, HWW.out]; exact rnd_ref a b c d e f g1 h kk ww), ?_, ?_⟩
        ·exact Li.Blk.setAll (l := [a, b, c, d, e, f, g1, h].map v32) (by first | exact hA.drewN _ | exact (hA.drewN _).drewN _) rfl
        ·exact RInv.setCells (by first | exact hI.drewN _ | exact (hI.drewN _).drewN _) (by omega) _
      ·have ek : k = 64 := by omega
       subst ek
       clear c0 c1 c2 c3 c4 c5 c6 c7
       obtain ⟨cu, hcu⟩ : ∃ cu, cu = [a, b, c, d, e, f, g1, h] := ⟨_, rfl⟩
       rw [← hcu] at hA hR
       have lcu : cu.length = 8 := by rw [hcu]; rfl
       have HC := Lib.hid lcu
       clear hcu lcu
       have hs0 := hI.s0
       have hr0 := hI.r
       have hb0 := hI.b
       clear hI
       go_wp2_with fail
       go_loopg [20] 8 (fun gh s20 wr => ∃ k : Nat, gh = 8 - k ∧ k ≤ 8 ∧ s20 = .int .i64 k ∧ Li.Blk wr n ((addTo s cu k).map v32) 126 ∧ Li.Blk wr (n + 2) (List.replicate 8 (v32 0#32)) 126 ∧ Li.Blk wr m (cu.map v32) 126 ∧ Below n w wr)
       case atStart => exact ⟨0, rfl, by omega, rfl, by simpa [addTo] using hs0, hr0, hA, hb0⟩
       case round =>
        clear hs0 hr0 hA hb0
        obtain ⟨k, rfl, hk, rfl, h0, h2, hm2, hb⟩ := hrel
        by_cases hlt : k < 8
        ·have ck := (h0.cell k).trans (addTo_get s cu Hs.out HC.out k hlt)
         have fk := h0.frozen k
         have cm := (hm2.cell k).trans (show _ = some (.int .u32 (n32 (cu.getD k 0))) from by simp [v32, HC.out, hlt])
         have kl : (k : Int) < 8 := by omega
         generalize hx1 : cu.getD k 0 = x1 at cm
         generalize hx2 : s.getD k 0 = x2 at ck
         have H1 := Lib.hid hx1
         have H2 := Lib.hid hx2
         clear hx1 hx2
         go_wp2_with fail
         go_still_tail 9, (by kernel_rfl)
         go_wp2_with fail
         go_roundg (8 - (k + 1))
         case measure => omega
         case rel =>
          refine ⟨k + 1, rfl, by omega, by go_num, ?_, h2.setOther (by simp) _, hm2.setOther (by simp; omega) _, (hb.setCell (by simp) _).drew⟩
          have := h0.set k (.int .u32 (n32 (x2 + x1)))
          rw [show (.int .u32 (n32 (x2 + x1)) : Value) = v32 (x2 + x1) from rfl, ← List.map_set, ← H1.out, ← H2.out, addTo_set s cu Hs.out HC.out k hlt] at this
          rw [← H1.out, ← H2.out]
          exact this
        ·have ek : k = 8 := by omega
         subst ek
         have e8 : addTo s cu 8 = stepL ks s bs := by
          unfold addTo stepL
          rw [HW.out, hR.out, List.take_of_length_le (by simp [Hs.out, HC.out]), List.drop_of_length_le (by rw [Hs.out]; exact Nat.le_refl _), List.append_nil]
         rw [e8] at h0
         have ln : ((stepL ks s bs).map v32).length = 8 := by rw [← e8]; simp [addTo, Hs.out, HC.out]
         have LN := Lib.hid ln
         clear e8 ln
         go_wp2_with (first
          | (refine Li.wpList_load_blk rfl 126 (.tmp 3) rfl n rfl h0 Tryz.underlying126 rfl ?_ ?_; (rw [LN.out]; kernel_rfl))
          | (refine Li.wpList_store_blk rfl 126 (.tmp 6) (.tmp 198) rfl (n + 2) rfl rfl h2 ?_ ?_ (map32_one _) ?_; (rw [LN.out]; rfl); (rw [LN.out]; kernel_rfl)))
         have h2' := h2.setAll (vs := (stepL ks s bs).map v32) (by rw [LN.out]; rfl)
         refine Li.bodyPost_blk rfl rfl h2' Tryz.underlying126 rfl (by rw [LN.out]; kernel_rfl) rfl ⟨rfl, ?_⟩
         rw [← HN.out]
         exact Li.below_setCells _ _ _ _ hb (by omega)
end Sha
end Go.Proofs.YtakdoijemopejaaGreat


/- The walk of sha.stepped. -/
import Derived.Test.YtakdoijemopejaaGreatShaSched
set_option maxRecDepth 100000
set_option linter.unusedSimpArgs false
set_option linter.unusedVariables false
namespace Go.Proofs.YtakdoijemopejaaGreat
open Go.RowKit
namespace Sha
open Bv (n8 n16 n32 n64)
attribute [local go_sem ↓] Bv.xor_n32 Bv.and_n32 Bv.or_n32 Bv.add_n32 Bv.shl_n32 Bv.shr_n32
attribute [local go_sem] Bv.of_n32 Bv.of_n64 Bv.wrap_n32_of Bv.of32_n8
theorem not_n32 (a : Int) : Op.unary .xor (.int .u32 a) = pure (.int .u32 (n32 (4294967295#32 ^^^ BitVec.ofInt 32 a))) := by
 show Op.intBits .xor .u32 _ a = _
 rw [Bv.xor_n32]; rfl
attribute [local go_sem ↓] not_n32
theorem sgn32 : IntKind.u32.signed = false := rfl
theorem max32 : BitVec.ofInt 32 IntKind.u32.max = 4294967295#32 := rfl
attribute [local go_sem] sgn32 max32
/-- One round. -/
def rnd (s : List (BitVec 32)) (k w : BitVec 32) : List (BitVec 32) :=
 match s with
 | [a, b, c, d, e, f, g, h] =>
  let t1 := h + rotx e [6, 11, 25] + (e &&& f ^^^ (4294967295#32 ^^^ e) &&& g) + k + w
  let t2 := rotx a [2, 13, 22] + (a &&& b ^^^ a &&& c ^^^ b &&& c)
  [t1 + t2, a, b, c, d + t1, e, f, g]
 | s => s
def rnds (ks ws : List (BitVec 32)) (s : List (BitVec 32)) : Nat → List (BitVec 32)
 | 0 => s
 | i + 1 => rnd (rnds ks ws s i) (ks.getD i 0) (ws.getD i 0)
/-- A step with a block. -/
def stepL (ks s : List (BitVec 32)) (bs : List (BitVec 8)) : List (BitVec 32) := s.zipWith (· + ·) (rnds ks (sched bs 64) s 64)
attribute [local irreducible] sched rnds stepL rotx ror
structure PInv (ks : List (BitVec 32)) (w : World) (s cur : List (BitVec 32)) (wr : World) : Prop where
 s0 : Li.Blk wr w.heap.size (s.map v32) 126
 k : Li.Blk wr (w.heap.size + 2) (ks.map v32) 125
 r : Li.Blk wr (w.heap.size + 3) (List.replicate 8 (v32 0#32)) 126
 c : Li.Blk wr (w.heap.size + 4) (cur.map v32) 126
 b : Below w.heap.size w wr
theorem PInv.ext {ks : List (BitVec 32)} {w : World} {s cur : List (BitVec 32)} {wr wx : World} (h : PInv ks w s cur wr) (e : Hv.Ext wr wx) : PInv ks w s cur wx :=
 ⟨h.s0.grow e, h.k.grow e, h.r.grow e, h.c.grow e, h.b.trans (e.mono h.b.size)⟩
/-- The words of s, the first k of them raised by those of t. -/
def addTo (s t : List (BitVec 32)) (k : Nat) : List (BitVec 32) := (s.zipWith (· + ·) t).take k ++ s.drop k
theorem addTo_get (s t : List (BitVec 32)) (hs : s.length = 8) (ht : t.length = 8) (k : Nat) (hk : k < 8) : ((addTo s t k).map v32)[k]? = some (.int .u32 (n32 (s.getD k 0))) := by
 have e : ((s.zipWith (· + ·) t).take k).length = k := by simp [hs, ht]; omega
 unfold addTo
 rw [List.getElem?_map, List.getElem?_append_right (by omega), e, Nat.sub_self]
 simp [hs, hk, v32]
theorem addTo_set (s t : List (BitVec 32)) (hs : s.length = 8) (ht : t.length = 8) (k : Nat) (hk : k < 8) : (addTo s t k).set k (s.getD k 0 + t.getD k 0) = addTo s t (k + 1) := by
 have e : ((s.zipWith (· + ·) t).take k).length = k := by simp [hs, ht]; omega
 unfold addTo
 rw [List.set_append_right _ _ (by omega), e, Nat.sub_self, List.take_succ_eq_append_getElem (by simp [hs, ht]; omega), List.drop_eq_getElem_cons (by omega), List.set_cons_zero, List.append_assoc]
 simp [hs, ht, hk]
theorem map32_length {l : List (BitVec 32)} {n : Nat} (h : l.length = n) : (l.map v32).length = n := by simp [h]
theorem map8_length {l : List (BitVec 8)} {n : Nat} (h : l.length = n) : (l.map v8).length = n := by simp [h]
theorem map32_one (l : List (BitVec 32)) : ∀ v ∈ l.map v32, v.oneCell' = true := by
 intro v hv; obtain ⟨x, _, rfl⟩ := List.mem_map.1 hv; rfl
set_option maxHeartbeats 1600000 in
set_option maxRecDepth 100000 in
theorem stepped_any (ks s : List (BitVec 32)) (bs : List (BitVec 8)) (hks : ks.length = 64) (hs : s.length = 8) (hbs : bs.length = 64) (w : World) :
  Calls Tryz.prog 92 #[.agg (s.map v32).toArray, .agg (bs.map v8).toArray, .agg (ks.map v32).toArray] w fun e w' => e = .returned (.agg ((stepL ks s bs).map v32).toArray) ∧ Below w.heap.size w w' := by
 have ls := Lib.hid (map32_length hs)
 have lb := Lib.hid (map8_length hbs)
 have H64 := Lib.hid hbs
 have Hs := Lib.hid hs
 have Hk := Lib.hid hks
 clear hbs hs hks
 go_enter Tryz.func92, Tryz.ntmps92
 go_wp2_with (first
  | (refine Li.wpList_load_blk rfl 126 (.tmp 3) rfl w.heap.size rfl (l := s.map v32) (t := 126) ?_ Tryz.underlying126 rfl ?_ ?_; (repeat (first | exact Li.Blk.new' (by simp) | refine Li.Blk.alloc ?_ _)); (rw [ls.out]; kernel_rfl))
  | (refine Li.wpList_store_blk rfl 126 (.tmp 7) (.tmp 20) rfl (w.heap.size + 4) rfl rfl (l := List.replicate 8 (v32 0#32)) (t := 126) ?_ ?_ ?_ (map32_one s) ?_; exact Li.Blk.new' (by simp); (rw [ls.out]; rfl); (rw [ls.out]; kernel_rfl))
  | (refine Li.wpList_load_blk rfl 120 (.tmp 4) rfl (w.heap.size + 1) rfl (l := bs.map v8) (t := 120) ?_ Tryz.underlying120 rfl ?_ ?_; (refine Li.Blk.setCellsOther ?_ (by simp) _ _); (repeat (first | exact Li.Blk.new' (by simp) | refine Li.Blk.alloc ?_ _)); (rw [lb.out]; kernel_rfl))
  | (go_at_call 100; refine (sched_any bs H64.out _).mono ?_; rintro e w1 ⟨rfl, hb1⟩))
 have P0 : PInv ks w s s w1 := by
  refine ⟨?_, ?_, ?_, ?_, ?_⟩
  ·refine Li.Blk.grow ?_ hb1
   refine Li.Blk.setCellsOther ?_ (by simp) _ _
   repeat (first | exact Li.Blk.new' (by simp) | refine Li.Blk.alloc ?_ _)
  ·refine Li.Blk.grow ?_ hb1
   refine Li.Blk.setCellsOther ?_ (by simp) _ _
   repeat (first | exact Li.Blk.new' (by simp) | refine Li.Blk.alloc ?_ _)
  ·refine Li.Blk.grow ?_ hb1
   refine Li.Blk.setCellsOther ?_ (by simp) _ _
   refine Li.Blk.alloc ?_ _
   exact Li.Blk.new' (l := List.replicate 8 (v32 0#32)) (by simp)
  ·refine Li.Blk.grow ?_ hb1
   exact Li.Blk.setAll (l := List.replicate 8 (v32 0#32)) (Li.Blk.new' (by simp)) (by rw [ls.out]; rfl)
  ·refine Below.trans (b := _) ?_ (hb1.mono (by rw [Li.size_setCells]; simp only [World.size_alloc]; omega))
   refine Li.below_setCells _ _ _ _ ?_ (by omega)
   refine (((((Below.refl _ _).alloc (Nat.le_refl _) _).alloc (by simp only [World.size_alloc]; omega) _).alloc (by simp only [World.size_alloc]; omega) _).alloc (by simp only [World.size_alloc]; omega) _).alloc (by simp only [World.size_alloc]; omega) _
 clear hb1
 generalize hws : sched bs 64 = ws
 have HW := Lib.hid hws
 have lw : ws.length = 64 := by rw [← hws]; exact sched_length bs 64
 have HL := Lib.hid lw
 clear hws lw
 simp only [Nat.add_assoc, Nat.reduceAdd]
 go_loopg [23] 64 (fun gh s23 wr => ∃ (k : Nat) (a b c d e f g h : BitVec 32), gh = 64 - k ∧ k ≤ 64 ∧ s23 = .int .i64 k ∧ Hid (rnds ks ws s k = [a, b, c, d, e, f, g, h]) ∧ PInv ks w s [a, b, c, d, e, f, g, h] wr)
 case atStart =>
  match s, Hs.out with
  | [a, b, c, d, e, f, g, h], _ => exact ⟨0, a, b, c, d, e, f, g, h, rfl, by omega, rfl, Lib.hid (by rw [rnds]), P0⟩
 case round =>
  obtain ⟨k, a, b, c, d, e, f, g, h, rfl, hk, rfl, hR, hP⟩ := hrel
  have c0 := (hP.c.cell 0).trans (show _ = some (.int .u32 (n32 a)) from rfl)
  have c1 := (hP.c.cell 1).trans (show _ = some (.int .u32 (n32 b)) from rfl)
  have c2 := (hP.c.cell 2).trans (show _ = some (.int .u32 (n32 c)) from rfl)
  have c3 := (hP.c.cell 3).trans (show _ = some (.int .u32 (n32 d)) from rfl)
  have c4 := (hP.c.cell 4).trans (show _ = some (.int .u32 (n32 e)) from rfl)
  have c5 := (hP.c.cell 5).trans (show _ = some (.int .u32 (n32 f)) from rfl)
  have c6 := (hP.c.cell 6).trans (show _ = some (.int .u32 (n32 g)) from rfl)
  have c7 := (hP.c.cell 7).trans (show _ = some (.int .u32 (n32 h)) from rfl)
  by_cases hlt : k < 64
  ·have ck := (hP.k.cell k).trans (show _ = some (.int .u32 (n32 (ks.getD k 0))) from by simp [v32, Hk.out, hlt])
   have hix : ∀ wx, (Instr.index 125 (.agg (ws.map v32).toArray) (.int .i64 (k : Int))).run Tryz.prog wx = .ok (.int .u32 (n32 (ws.getD k 0))) wx := fun wx => Li.run_index Tryz.underlying125 Tryz.underlying32 (by kernel_rfl) _ k hlt (by simp [v32, HL.out, hlt]) _
   have nk : w.heap.size + 4 < wr.heap.size := hP.c.lt
   have nk2 : w.heap.size + 2 < wr.heap.size := by omega
   generalize hkk : ks.getD k 0 = kk at ck
   generalize hww : ws.getD k 0 = ww at hix
   have HKK := Lib.hid hkk
   have HWW := Lib.hid hww
   clear hkk hww
   go_wp2_with fail
   go_quiet (fail)
   go_wp2_with fail
   refine Hv.grow 22 (fun | 3 => some (Hv.row [.int .i64 6, .int .i64 11, .int .i64 25] 3) | 4 => some (Hv.con (.int .u32 (n32 (rotx e [6, 11, 25])))) | _ => none)
    (fun | 4 => [[3, 4]] | _ => []) (by kernel_rfl) (by kernel_rfl) ?_ ?_
   ·intro i m hm v wa wb hR hv
    split at hm <;> first | cases hm | skip
    all_goals first | exact Hv.row_st hR hv | exact Hv.con_st hR hv | exact Nown_st hR hv | exact Nparts_st hR hv
   ·change Hv.HW _ _ _ _ _ _ _ [0, 1, 2, 3, 4, 5, 6, 7, 8, 9, 10, 11, 12, 13, 14, 15, 16, 17, 18, 19, 20, 21] _ _
    iterate 3 (refine Hv.pure (v := ?_) (by rfl) (by rfl) (by rfl) (fun wx hS => ?_) ?_; rotate_left; (focus (have hc := hS.undrewN.cells.1; have hz := hS.undrewN.cells.2; go_simp; (first | done | with_reducible rfl))); (try simp only [Act.put, List.setIfInBounds_toArray, List.set_cons_zero, List.set_cons_succ]))
    refine Hv.noise (m := _) (by rfl) (by rfl) (by rfl) (Hv.row_ex _ _) (fun wx hS hf => ?_) (fun v hv => ?_)
    ·unfold Hv.Gives
     go_simp
     exact Hv.row_new wx [.int .i64 6, .int .i64 11, .int .i64 25] 3
    obtain ⟨_, rfl⟩ := hv
    (try simp only [Act.put, List.setIfInBounds_toArray, List.set_cons_zero, List.set_cons_succ])
    refine Hv.noise (m := _) (by rfl) (by rfl) (by rfl) (Hv.con_ex _) (fun wx hS hf => ?_) (fun v hv => ?_)
    ·have h1 := hf _ List.mem_cons_self ⟨[3, 4], List.mem_cons_self, rfl⟩ _ _ _ rfl
     unfold Hv.Gives
     go_simp
     refine (rotr3 e 6 11 25 _ _ _ ((cell_of_row _ _ 0 _ _ _ h1).trans rfl) ((cell_of_row _ _ 1 _ _ _ h1).trans rfl) ((cell_of_row _ _ 2 _ _ _ h1).trans rfl) (by omega) (by omega) (by omega)).mono ?_
     rintro e w' ⟨rfl, rfl⟩
     exact ⟨_, rfl, Hv.Ext.refl _, rfl, trivial⟩
    obtain rfl := hv
    (try simp only [Act.put, List.setIfInBounds_toArray, List.set_cons_zero, List.set_cons_succ])
    iterate 17 (refine Hv.pure (v := ?_) (by rfl) (by rfl) (by rfl) (fun wx hS => ?_) ?_; rotate_left; (focus (have hc := hS.undrewN.cells.1; have hz := hS.undrewN.cells.2; go_simp; (first | done | with_reducible rfl))); (try simp only [Act.put, List.setIfInBounds_toArray, List.set_cons_zero, List.set_cons_succ]))
    refine Hv.done (fun wx hS _ => ?_)
    simp only [List.drop_succ_cons, List.drop_zero]
    have hP1 := hP.ext hS.undrewN
    have q0 := (hP1.c.cell 3).trans (show _ = some (.int .u32 (n32 d)) from rfl)
    have nx : w.heap.size + 4 < wx.heap.size := hP1.c.lt
    clear c0 c1 c2 c3 c4 c5 c6 c7 ck hix
    go_wp2_with fail
    refine (rotr3 a 2 13 22 wx.heap.size 3 _ ?_ ?_ ?_ (by omega) (by omega) (by omega)).mono ?_
    ·simp
    ·simp
    ·simp
    rintro e1 w1 ⟨rfl, rfl⟩
    go_wp2_with ((with_reducible show wpList _ _ _ (⟨none, _, _, _, _, _⟩ :: _) _ _); (refine Li.wpList_store_blk rfl 126 (.tmp 7) (.tmp 88) rfl (w.heap.size + 4) (vs := _) (by rfl) (by rfl) (l := [a, b, c, d, e, f, g, h].map v32) (t := 126) ?_ ?_ ?_ ?_ ?_; exact hP1.c.alloc _; rfl; kernel_rfl; (intro v hv; simp at hv; rcases hv with rfl | rfl | rfl | rfl | rfl | rfl | rfl | rfl <;> rfl)))
    go_roundg (64 - (k + 1))
    case measure => omega
    case rel =>
     refine ⟨k + 1, _, a, b, c, _, e, f, g, rfl, by omega, by go_num, Lib.hid (by rw [rnds, hR.out, HKK.out, HWW.out]; rfl), ?_⟩
     have P1 := hP1.ext (Hv.Ext.alloc wx (.cells #[.int .i64 2, .int .i64 13, .int .i64 22] 3))
     exact ⟨P1.s0.setCellsOther (by omega) _ _, P1.k.setCellsOther (by omega) _ _, P1.r.setCellsOther (by omega) _ _, P1.c.setAll rfl, Li.below_setCells _ _ _ _ P1.b (by omega)⟩
  ·have ek : k = 64 := by omega
   subst ek
   clear c0 c1 c2 c3 c4 c5 c6 c7
   have hPc := hP.c
   have hP0 := hP.s0
   have hPr := hP.r
   have hPb := hP.b
   obtain ⟨cu, hcu⟩ : ∃ cu, cu = [a, b, c, d, e, f, g, h] := ⟨_, rfl⟩
   rw [← hcu] at hPc hR
   have lcu : cu.length = 8 := by rw [hcu]; rfl
   have HC := Lib.hid lcu
   clear hP hcu lcu
   go_wp2_with (refine Li.wpList_load_blk rfl 126 (.tmp 7) rfl (w.heap.size + 4) rfl hPc Tryz.underlying126 rfl ?_ ?_; (rw [map32_length HC.out]; kernel_rfl))
   clear hPc
   go_loopg [91] 8 (fun gh s91 wr => ∃ k : Nat, gh = 8 - k ∧ k ≤ 8 ∧ s91 = .int .i64 k ∧ Li.Blk wr w.heap.size ((addTo s cu k).map v32) 126 ∧ Li.Blk wr (w.heap.size + 3) (List.replicate 8 (v32 0#32)) 126 ∧ Below w.heap.size w wr)
   case atStart => exact ⟨0, rfl, by omega, rfl, by simpa [addTo] using hP0, hPr, hPb⟩
   case round =>
    clear hP0 hPr hPb
    obtain ⟨k, rfl, hk, rfl, h0, h3, hb⟩ := hrel
    by_cases hlt : k < 8
    ·have hix : ∀ wx, (Instr.index 126 (.agg (cu.map v32).toArray) (.int .i64 (k : Int))).run Tryz.prog wx = .ok (.int .u32 (n32 (cu.getD k 0))) wx := fun wx => Li.run_index Tryz.underlying126 Tryz.underlying32 (by kernel_rfl) _ k hlt (by simp [v32, HC.out, hlt]) _
     have ck := (h0.cell k).trans (addTo_get s cu Hs.out HC.out k hlt)
     have fk := h0.frozen k
     generalize hx1 : cu.getD k 0 = x1 at hix
     generalize hx2 : s.getD k 0 = x2 at ck
     have H1 := Lib.hid hx1
     have H2 := Lib.hid hx2
     clear hx1 hx2
     go_wp2_with fail
     go_roundg (8 - (k + 1))
     case measure => omega
     case rel =>
      refine ⟨k + 1, rfl, by omega, by go_num, ?_, h3.setOther (by simp) _, hb.setCell (by simp) _⟩
      have := h0.set k (.int .u32 (n32 (x2 + x1)))
      rw [show (.int .u32 (n32 (x2 + x1)) : Value) = v32 (x2 + x1) from rfl, ← List.map_set, ← H1.out, ← H2.out, addTo_set s cu Hs.out HC.out k hlt] at this
      rw [← H1.out, ← H2.out]
      exact this
    ·have ek : k = 8 := by omega
     subst ek
     have e8 : addTo s cu 8 = stepL ks s bs := by
      unfold addTo stepL
      rw [HW.out, hR.out, List.take_of_length_le (by simp [Hs.out, HC.out]), List.drop_of_length_le (by rw [Hs.out]; exact Nat.le_refl _), List.append_nil]
     rw [e8] at h0
     have ln : ((stepL ks s bs).map v32).length = 8 := by rw [← e8]; simp [addTo, Hs.out, HC.out]
     have LN := Lib.hid ln
     clear e8 ln
     go_wp2_with (first
      | (refine Li.wpList_load_blk rfl 126 (.tmp 3) rfl w.heap.size rfl h0 Tryz.underlying126 rfl ?_ ?_; (rw [LN.out]; kernel_rfl))
      | (refine Li.wpList_store_blk rfl 126 (.tmp 6) (.tmp 102) rfl (w.heap.size + 3) rfl rfl h3 ?_ ?_ (map32_one _) ?_; (rw [LN.out]; rfl); (rw [LN.out]; kernel_rfl)))
     have h3' := h3.setAll (vs := (stepL ks s bs).map v32) (by rw [LN.out]; rfl)
     refine Li.bodyPost_blk rfl rfl h3' Tryz.underlying126 rfl (by rw [LN.out]; kernel_rfl) rfl ⟨rfl, Li.below_setCells _ _ _ _ hb (by omega)⟩
end Sha
end Go.Proofs.YtakdoijemopejaaGreat


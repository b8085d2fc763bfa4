/- The walk of absorb: a block of bytes is taken into the chain of a digest. -/
import Derived.Test.YtakdoijemopejaaGreatShaSteps
import Derived.Test.YtakdoijemopejaaGreatOwnSame
import Derived.Test.YtakdoijemopejaaGreatBaseA
import Derived.Laws.Cover3
set_option maxRecDepth 100000
set_option linter.unusedSimpArgs false
set_option linter.unusedVariables false
namespace Go.Proofs.YtakdoijemopejaaGreat
open Go.RowKit
namespace Sha
open Bv (n8 n16 n32 n64)
attribute [local irreducible] K64 H8 stepL
theorem arr32 (a : Option Addr) (c : Nat) (w : World) : (Instr.arrayAt 120 (.slice a 64 c)).run Tryz.prog w = .ok (.pointer a) w := run_arrayAt w 120 _ 64 a 64 c Tryz.underlying120 (Nat.le_refl _)
attribute [local go_sem] arr32
/-- The cells of a digest: state, constants, whether they are there, the rest, the count. -/
def chW (s k : List (BitVec 32)) (rd : Bool) (v n : Value) : List Value := s.map v32 ++ (k.map v32 ++ [.bool rd, v, n])
theorem chW_length {s k : List (BitVec 32)} (hs : s.length = 8) (hk : k.length = 64) (rd : Bool) (v n : Value) : (chW s k rd v n).length = 75 := by simp [chW, hs, hk]
theorem chW_72 {s k : List (BitVec 32)} (hs : s.length = 8) (hk : k.length = 64) (rd : Bool) (v n : Value) : (chW s k rd v n)[72]? = some (.bool rd) := by
 unfold chW
 rw [List.getElem?_append_right (by simp; omega), List.getElem?_append_right (by simp; omega)]
 simp [hs, hk]
theorem chW_73 {s k : List (BitVec 32)} (hs : s.length = 8) (hk : k.length = 64) (rd : Bool) (v n : Value) : (chW s k rd v n)[73]? = some v := by
 unfold chW
 rw [List.getElem?_append_right (by simp; omega), List.getElem?_append_right (by simp; omega)]
 simp [hs, hk]
theorem chW_74 {s k : List (BitVec 32)} (hs : s.length = 8) (hk : k.length = 64) (rd : Bool) (v n : Value) : (chW s k rd v n)[74]? = some n := by
 unfold chW
 rw [List.getElem?_append_right (by simp; omega), List.getElem?_append_right (by simp; omega)]
 simp [hs, hk]
theorem chW_set72 {s k : List (BitVec 32)} (hs : s.length = 8) (hk : k.length = 64) (rd rd' : Bool) (v n : Value) : (chW s k rd v n).set 72 (.bool rd') = chW s k rd' v n := by
 unfold chW
 rw [List.set_append_right _ _ (by simp; omega), List.set_append_right _ _ (by simp; omega)]
 simp [hs, hk]
theorem chW_set73 {s k : List (BitVec 32)} (hs : s.length = 8) (hk : k.length = 64) (rd : Bool) (v v' n : Value) : (chW s k rd v n).set 73 v' = chW s k rd v' n := by
 unfold chW
 rw [List.set_append_right _ _ (by simp; omega), List.set_append_right _ _ (by simp; omega)]
 simp [hs, hk]
theorem chW_set74 {s k : List (BitVec 32)} (hs : s.length = 8) (hk : k.length = 64) (rd : Bool) (v n n' : Value) : (chW s k rd v n).set 74 n' = chW s k rd v n' := by
 unfold chW
 rw [List.set_append_right _ _ (by simp; omega), List.set_append_right _ _ (by simp; omega)]
 simp [hs, hk]
theorem _root_.Go.Proofs.YtakdoijemopejaaGreat.Li.Blk.state {w : World} {g : Nat} {s k s' : List (BitVec 32)} {rd : Bool} {v n : Value} (h : Li.Blk w g (chW s k rd v n) 135) (hl : s'.length = s.length) : Li.Blk (w.setCells g 0 (s'.map v32)) g (chW s' k rd v n) 135 :=
 Li.Blk.setPart (pre := []) h rfl (by simp [hl])
theorem _root_.Go.Proofs.YtakdoijemopejaaGreat.Li.Blk.consts {w : World} {g : Nat} {s k k' : List (BitVec 32)} {rd : Bool} {v n : Value} (h : Li.Blk w g (chW s k rd v n) 135) (hs : s.length = 8) (hl : k'.length = k.length) : Li.Blk (w.setCells g 8 (k'.map v32)) g (chW s k' rd v n) 135 :=
 Li.Blk.setPart (pre := s.map v32) h (by simp [hs]) (by simp [hl])
set_option maxHeartbeats 2000000 in
theorem absorb_any (D g off cap : Nat) (s k : List (BitVec 32)) (rd : Bool) (bs : List (BitVec 8)) (v n : Value) (hs : s.length = 8) (hk : k.length = 64) (hrd : rd = true → k = K64) (hbs : bs.length = 64) (hg : g ≠ D) (w : World) (hD : Li.Blk w D (chW s k rd v n) 135) (hB : w.rangeAt g off (bs.map v8)) :
  Calls Tryz.prog 82 #[.pointer (some ⟨D, 0, none⟩), .slice (some ⟨g, off, none⟩) 64 cap] w fun e w' => e = .returned (.tuple #[]) ∧ Li.Blk w' D (chW (stepL K64 (if rd then s else H8) bs) K64 true v n) 135 ∧ w.grownBy w' (some D) := by
 have hgl : g < w.heap.size := by
  have := hB 0 (v8 (bs.getD 0 0)) (by simp [hbs])
  exact World.block_lt_of_cell? _ _ this
 have hDl := hD.lt
 have c72 := (hD.cell 72).trans (chW_72 hs hk rd v n)
 have C := Lib.hid (fun wx => constants_any wx)
 have HS := Lib.hid hs
 have HK := Lib.hid hk
 have HB := Lib.hid hbs
 have lK := Lib.hid (show (K64.map v32).length = 64 by rw [List.length_map, K64_length])
 have lH := Lib.hid (show (H8.map v32).length = 8 by rw [List.length_map, H8_length])
 have lB := Lib.hid (show (bs.map v8).length = 64 by rw [List.length_map, hbs])
 obtain ⟨s0, hs0⟩ : ∃ s0, s0 = if rd then s else H8 := ⟨_, rfl⟩
 have hs8 : s0.length = 8 := by rw [hs0]; split; exact hs; exact H8_length
 have T := Lib.hid (fun wx => stepped_any K64 s0 bs K64_length hs8 hbs wx)
 have hl := stepL_length K64 s0 bs hs8
 rw [← hs0]
 have lS := Lib.hid (show (s0.map v32).length = 8 by rw [List.length_map, hs8])
 obtain ⟨s', hs'⟩ : ∃ s', s' = stepL K64 s0 bs := ⟨_, rfl⟩
 rw [← hs'] at T hl ⊢
 have HL := Lib.hid hl
 clear hs' hl hs hbs hs8 hk
 cases rd with
 | true =>
  obtain rfl : k = K64 := hrd rfl
  simp only [if_true] at hs0
  subst hs0
  have hD1 := hD
  have hB1 := hB
  have hG : w.grownBy w (some D) := Li.grown_refl w _
  clear hD hB hrd
  go_enter Tryz.func82, Tryz.ntmps82
  go_wp2_with fail
  obtain ⟨wx, hwx⟩ : ∃ wx, wx = w := ⟨_, rfl⟩
  rw [← hwx] at hD1 hB1
  rw [← hwx]
  have hG1 : w.grownBy wx (some D) := by rw [hwx]; exact hG
  clear c72 hG hwx
  refine Hv.grow 13 (fun | 12 => some (Hv.con (.agg (s'.map v32).toArray)) | _ => none) (fun _ => []) (by kernel_rfl) (by kernel_rfl) ?_ ?_
  ·intro i m hm v wa wb hR hv
   split at hm <;> first | cases hm | skip
   all_goals first | exact Hv.row_st hR hv | exact Hv.con_st hR hv | exact Nown_st hR hv | exact Nparts_st hR hv
  change Hv.HW _ _ _ _ _ _ _ [0, 1, 2, 3, 4, 5, 6, 7, 8, 9, 10, 11, 12] _ _
  iterate 4 (refine Hv.pure (v := ?_) (by rfl) (by rfl) (by rfl) (fun wx hS => ?_) ?_; rotate_left; (focus (have hc := hS.cells.1; have hz := hS.cells.2; go_simp; (first | done | with_reducible rfl))); (try simp only [Act.put, List.setIfInBounds_toArray, List.set_cons_zero, List.set_cons_succ]))
  refine Hv.pure (v := .agg (s0.map v32).toArray) (by rfl) (by rfl) (by rfl) (fun wy hS => Hv.exec_load_part (by rfl) (g := D) (off := 0) (by rfl) (Li.Blk.range (pre := []) (hD1.grow hS) rfl) Tryz.underlying126 rfl (by rw [lS.out]; kernel_rfl)) ?_
  (try simp only [Act.put, List.setIfInBounds_toArray, List.set_cons_zero, List.set_cons_succ])
  iterate 2 (refine Hv.pure (v := ?_) (by rfl) (by rfl) (by rfl) (fun wx hS => ?_) ?_; rotate_left; (focus (have hc := hS.cells.1; have hz := hS.cells.2; go_simp; (first | done | with_reducible rfl))); (try simp only [Act.put, List.setIfInBounds_toArray, List.set_cons_zero, List.set_cons_succ]))
  refine Hv.pure (v := .agg (bs.map v8).toArray) (by rfl) (by rfl) (by rfl) (fun wy hS => Hv.exec_load_part (by rfl) (g := g) (off := off) (by rfl) (fun j u hu => (hS.cells.1 g _ (by have := hG1.size; omega)).trans (hB1 j u hu)) Tryz.underlying120 rfl (by rw [lB.out]; kernel_rfl)) ?_
  (try simp only [Act.put, List.setIfInBounds_toArray, List.set_cons_zero, List.set_cons_succ])
  iterate 3 (refine Hv.pure (v := ?_) (by rfl) (by rfl) (by rfl) (fun wx hS => ?_) ?_; rotate_left; (focus (have hc := hS.cells.1; have hz := hS.cells.2; go_simp; (first | done | with_reducible rfl))); (try simp only [Act.put, List.setIfInBounds_toArray, List.set_cons_zero, List.set_cons_succ]))
  refine Hv.pure (v := .agg (K64.map v32).toArray) (by rfl) (by rfl) (by rfl) (fun wy hS => Hv.exec_load_part (by rfl) (g := D) (off := 8) (by rfl) (Li.Blk.range (pre := s0.map v32) (hD1.grow hS) lS.out.symm) Tryz.underlying125 rfl (by rw [lK.out]; kernel_rfl)) ?_
  (try simp only [Act.put, List.setIfInBounds_toArray, List.set_cons_zero, List.set_cons_succ])
  refine Hv.noise (m := _) (by rfl) (by rfl) (by rfl) (Hv.con_ex _) (fun wx hS hf => ?_) (fun v hv => ?_)
  ·unfold Hv.Gives
   go_simp
   refine (T.out _).mono ?_
   rintro e w' ⟨rfl, hb⟩
   exact ⟨_, rfl, hb, rfl, trivial⟩
  obtain rfl := hv
  (try simp only [Act.put, List.setIfInBounds_toArray, List.set_cons_zero, List.set_cons_succ])
  refine Hv.done (fun wy hS _ => ?_)
  simp only [List.drop_succ_cons, List.drop_zero]
  have hD2 := hD1.grow hS
  have lsl : (s'.map v32).length = 8 := by rw [List.length_map, HL.out]
  have hD3 := hD2.state (s' := s') (by rw [HL.out, ← List.length_map (f := v32), lS.out])
  have hG2 := Li.grown_setCells (Li.grown_ext hG1 hS) 0 (s'.map v32)
  have hle : 0 + (s'.map v32).length ≤ (chW s0 K64 true v n).length := by simp [chW, HL.out, K64_length]
  have Q2 := Lib.hid hD2
  have Q3 := Lib.hid hD3
  have Q4 := Lib.hid hG2
  clear hD1 hB1 hG1 hD2 hD3 hG2 hS
  go_wp2_with (refine Li.wpList_store_part rfl 126 _ _ rfl D 0 (by rfl) (by rfl) Q2.out hle (by rw [lsl]; kernel_rfl) (map32_one s') ?_)
  go_returns
  exact ⟨rfl, Q3.out, Q4.out⟩
 | false =>
  simp only [Bool.false_eq_true, if_false] at hs0
  clear hrd
  go_enter Tryz.func82, Tryz.ntmps82
  go_wp2_with fail
  refine Calls.mono (C.out _) ?_
  rintro e w1 ⟨rfl, hb1⟩
  have h1 := hD.grow hb1
  have h2 := h1.consts HS.out (k' := K64) (by rw [K64_length, HK.out])
  have h3 := h2.state (s' := H8) (by rw [H8_length, HS.out])
  have h4 := h3.set 72 (.bool true)
  rw [chW_set72 H8_length K64_length] at h4
  have c1 := (h3.cell 72).trans (chW_72 H8_length K64_length false v n)
  have f1 := h3.frozen 72
  have hG1 : w.grownBy ((((w1.setCells D 8 (K64.map v32)).setCells D 0 (H8.map v32)).setCell ⟨D, 72, none⟩ (.bool true))) (some D) :=
   Li.grown_setCell (Li.grown_setCells (Li.grown_setCells (Li.grown_ext (Li.grown_refl w _) hb1) _ _) _ _) _ _
  have hB1 : ((((w1.setCells D 8 (K64.map v32)).setCells D 0 (H8.map v32)).setCell ⟨D, 72, none⟩ (.bool true))).rangeAt g off (bs.map v8) := fun j u hu =>
   (World.cell?_of_block (a := (⟨g, off + j, none⟩ : Addr)) (hG1.block g hgl (by simpa using hg))).trans (hB j u hu)
  have P1 := Lib.hid h1
  have P2 := Lib.hid h2
  have P4 := Lib.hid (show Li.Blk ((((w1.setCells D 8 (K64.map v32)).setCells D 0 (H8.map v32)).setCell ⟨D, 72, none⟩ (.bool true))) D (chW s0 K64 true v n) 135 by rw [hs0]; exact h4)
  have PG := Lib.hid hG1
  have PB := Lib.hid hB1
  clear h1 h2 h3 h4 hG1 hB1 hD hB c72 C hb1
  go_wp2_with (first
   | (refine Li.wpList_store_part rfl 125 _ _ rfl D 8 (by rfl) (by rfl) P1.out (by rw [lK.out, chW_length HS.out HK.out]; decide) (by rw [lK.out]; kernel_rfl) (map32_one K64) ?_)
   | (refine Li.wpList_store_part rfl 126 _ _ rfl D 0 (by rfl) (by rfl) P2.out (by rw [lH.out, chW_length HS.out K64_length]; decide) (by rw [lH.out]; kernel_rfl) (map32_one H8) ?_))
  have hD1 := P4.out
  have hB1 := PB.out
  have hG1 := PG.out
  clear P4 PB PG P1 P2 c1 f1 hs0
  revert hD1 hB1 hG1
  generalize (((w1.setCells D 8 (K64.map v32)).setCells D 0 (H8.map v32)).setCell ⟨D, 72, none⟩ (.bool true)) = wx
  intro hD1 hB1 hG1
  refine Hv.grow 13 (fun | 12 => some (Hv.con (.agg (s'.map v32).toArray)) | _ => none) (fun _ => []) (by kernel_rfl) (by kernel_rfl) ?_ ?_
  ·intro i m hm v wa wb hR hv
   split at hm <;> first | cases hm | skip
   all_goals first | exact Hv.row_st hR hv | exact Hv.con_st hR hv | exact Nown_st hR hv | exact Nparts_st hR hv
  change Hv.HW _ _ _ _ _ _ _ [0, 1, 2, 3, 4, 5, 6, 7, 8, 9, 10, 11, 12] _ _
  iterate 4 (refine Hv.pure (v := ?_) (by rfl) (by rfl) (by rfl) (fun wx hS => ?_) ?_; rotate_left; (focus (have hc := hS.cells.1; have hz := hS.cells.2; go_simp; (first | done | with_reducible rfl))); (try simp only [Act.put, List.setIfInBounds_toArray, List.set_cons_zero, List.set_cons_succ]))
  refine Hv.pure (v := .agg (s0.map v32).toArray) (by rfl) (by rfl) (by rfl) (fun wy hS => Hv.exec_load_part (by rfl) (g := D) (off := 0) (by rfl) (Li.Blk.range (pre := []) (hD1.grow hS) rfl) Tryz.underlying126 rfl (by rw [lS.out]; kernel_rfl)) ?_
  (try simp only [Act.put, List.setIfInBounds_toArray, List.set_cons_zero, List.set_cons_succ])
  iterate 2 (refine Hv.pure (v := ?_) (by rfl) (by rfl) (by rfl) (fun wx hS => ?_) ?_; rotate_left; (focus (have hc := hS.cells.1; have hz := hS.cells.2; go_simp; (first | done | with_reducible rfl))); (try simp only [Act.put, List.setIfInBounds_toArray, List.set_cons_zero, List.set_cons_succ]))
  refine Hv.pure (v := .agg (bs.map v8).toArray) (by rfl) (by rfl) (by rfl) (fun wy hS => Hv.exec_load_part (by rfl) (g := g) (off := off) (by rfl) (fun j u hu => (hS.cells.1 g _ (by have := hG1.size; omega)).trans (hB1 j u hu)) Tryz.underlying120 rfl (by rw [lB.out]; kernel_rfl)) ?_
  (try simp only [Act.put, List.setIfInBounds_toArray, List.set_cons_zero, List.set_cons_succ])
  iterate 3 (refine Hv.pure (v := ?_) (by rfl) (by rfl) (by rfl) (fun wx hS => ?_) ?_; rotate_left; (focus (have hc := hS.cells.1; have hz := hS.cells.2; go_simp; (first | done | with_reducible rfl))); (try simp only [Act.put, List.setIfInBounds_toArray, List.set_cons_zero, List.set_cons_succ]))
  refine Hv.pure (v := .agg (K64.map v32).toArray) (by rfl) (by rfl) (by rfl) (fun wy hS => Hv.exec_load_part (by rfl) (g := D) (off := 8) (by rfl) (Li.Blk.range (pre := s0.map v32) (hD1.grow hS) lS.out.symm) Tryz.underlying125 rfl (by rw [lK.out]; kernel_rfl)) ?_
  (try simp only [Act.put, List.setIfInBounds_toArray, List.set_cons_zero, List.set_cons_succ])
  refine Hv.noise (m := _) (by rfl) (by rfl) (by rfl) (Hv.con_ex _) (fun wx hS hf => ?_) (fun v hv => ?_)
  ·unfold Hv.Gives
   go_simp
   refine (T.out _).mono ?_
   rintro e w' ⟨rfl, hb⟩
   exact ⟨_, rfl, hb, rfl, trivial⟩
  obtain rfl := hv
  (try simp only [Act.put, List.setIfInBounds_toArray, List.set_cons_zero, List.set_cons_succ])
  refine Hv.done (fun wy hS _ => ?_)
  simp only [List.drop_succ_cons, List.drop_zero]
  have hD2 := hD1.grow hS
  have lsl : (s'.map v32).length = 8 := by rw [List.length_map, HL.out]
  have hD3 := hD2.state (s' := s') (by rw [HL.out, ← List.length_map (f := v32), lS.out])
  have hG2 := Li.grown_setCells (Li.grown_ext hG1 hS) 0 (s'.map v32)
  have hle : 0 + (s'.map v32).length ≤ (chW s0 K64 true v n).length := by simp [chW, HL.out, K64_length]
  have Q2 := Lib.hid hD2
  have Q3 := Lib.hid hD3
  have Q4 := Lib.hid hG2
  clear hD1 hB1 hG1 hD2 hD3 hG2 hS
  go_wp2_with (refine Li.wpList_store_part rfl 126 _ _ rfl D 0 (by rfl) (by rfl) Q2.out hle (by rw [lsl]; kernel_rfl) (map32_one s') ?_)
  go_returns
  exact ⟨rfl, Q3.out, Q4.out⟩
end Sha
end Go.Proofs.YtakdoijemopejaaGreat


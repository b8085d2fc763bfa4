/- Layer 36: the iterator over complete PDUs, left in its first round. No condition but Go's own limits. -/
import Derived.Test.YtdngfcmakjlamaaStrTake
import Derived.Test.YtdngfcmakjlamaaIter1
set_option linter.unusedSimpArgs false
set_option linter.unusedVariables false
namespace Go.Proofs.Ytdngfcmakjlamaa
open Go Go.RowKit
namespace Sr
open Pd (Fm PDU meas dec framed pc iv fl fv)
open Se (St At Reads Cell)
open Li (v8 v8_one Rd Blk Fr)
open Bv (n8 n16 n32 n64)
variable {w0 w : World} {X : List Nat} {L : List At} {s s' : Rc} {g c : Nat} {B : Option Addr} {r : Option Nat}
attribute [local irreducible] Calls
/-- The receiver behind a PDU of n bytes. -/
def eat (s : Rc) (n : Nat) : Rc := { s with b := s.b.drop n, nb := s.nb + n, np := s.np + 1 }
def compM (b1 b2 g g3 : Nat) (s : Rc) (B : Option Addr) (c : Nat) (r : Option Nat) (e : Nat) : List At := [.blk b1 26 [.pointer (some ⟨g, 0, none⟩)], .blk b2 87 [.pointer (some ⟨g3, 0, none⟩)], pR g s B c, pO r B c s, .blk g3 27 [iv e]]
def compY (b1 b2 g g3 : Nat) (s : Rc) (p : PDU) (n e : Nat) (x : Array Value) (M1 : List At) : Prop :=
 e = 0 ∧ ∃ r1 EA ec r2 DA dc PC r' B' c', x = #[.agg PC.toArray, iv n] ∧ Hid (PC = pc p.h EA p.en.length ec DA p.da.length dc) ∧ M1 = .own 1 r1 EA p.en.length ec (p.en.map v8) :: .own 1 r2 DA p.da.length dc (p.da.map v8) :: compM b1 b2 g g3 (eat s n) B' c' r' 0
/-- A part of a slice, from k on. -/
theorem sl_from {A : Option Addr} {bs : List (BitVec 8)} {k n c : Nat} (h : Reads L A (bs.map v8)) (hk : k ≤ bs.length) (hc : c = k → bs.length ≤ k) : Reads L (if c = k then A else A.map (·.add k)) ((bs.drop k).map v8) := fun w hw => by
 have := Se.Rd.drop (h w hw) k c (by simpa using hk) (fun e => by simpa using hc e)
 rwa [← List.map_drop] at this
set_option maxRecDepth 100000 in
set_option maxHeartbeats 4000000 in
theorem comp_seq (b1 b2 g3 e0 : Nat) {p : PDU} {n e : Nat} (hr : takeE s = (p, n, e)) (hl : s.b.length ≤ 4194304) (hnb : s.nb + s.b.length ≤ 70368744177664) (hnp : s.np ≤ 70368744177664) :
  Se.SeqOne Try.prog 60 #[.pointer (some ⟨b1, 0, none⟩), .pointer (some ⟨b2, 0, none⟩)] w0 X (compM b1 b2 g g3 s B c r e0) (compM b1 b2 g g3 s B c r e) (e ≠ 0) (compY b1 b2 g g3 s p n e) := by
 intro l Jx T w hs hY
 have CT : Hid (∀ (w : World), St w0 X (compM b1 b2 g g3 s B c r e0 ++ T) w → Calls Try.prog 61 #[.pointer (some ⟨g, 0, none⟩)] w fun e' w' => ∃ r1 EA ec r2 DA dc PC, e' = .returned (.tuple #[.agg PC.toArray, iv n, iv e]) ∧ Hid (PC = pc p.h EA p.en.length ec DA p.da.length dc) ∧ St w0 X (.own 1 r1 EA p.en.length ec (p.en.map v8) :: .own 1 r2 DA p.da.length dc (p.da.map v8) :: (compM b1 b2 g g3 s B c r e0 ++ T)) w') := Lib.hid (fun w hs => by
  have h1 : St w0 X (pR g s B c :: pO r B c s :: .blk b1 26 [.pointer (some ⟨g, 0, none⟩)] :: .blk b2 87 [.pointer (some ⟨g3, 0, none⟩)] :: .blk g3 27 [iv e0] :: T) w := hs.perm (List.perm_append_comm (l₁ := [.blk b1 26 [.pointer (some ⟨g, 0, none⟩)], .blk b2 87 [.pointer (some ⟨g3, 0, none⟩)]]) (l₂ := [pR g s B c, pO r B c s]) |>.append_right _)
  refine (take_st h1 hl hr).mono ?_
  rintro e' w' ⟨r1, EA, ec, r2, DA, dc, PC, h2, h3, h4⟩
  exact ⟨r1, EA, ec, r2, DA, dc, PC, h2, h3, h4.perm (List.Perm.cons _ (List.Perm.cons _ (List.perm_append_comm (l₁ := [pR g s B c, pO r B c s]) (l₂ := [.blk b1 26 [.pointer (some ⟨g, 0, none⟩)], .blk b2 87 [.pointer (some ⟨g3, 0, none⟩)]]) |>.append_right _)))⟩)
 obtain ⟨RL, hRL⟩ : ∃ RL, RL = rcl s B c := ⟨_, rfl⟩
 obtain ⟨m, hm0⟩ : ∃ m, m = s.b.length := ⟨_, rfl⟩
 obtain ⟨nb, hnb0⟩ : ∃ m, m = s.nb := ⟨_, rfl⟩
 obtain ⟨np, hnp0⟩ : ∃ m, m = s.np := ⟨_, rfl⟩
 have htl := take_len hr
 have hcc : m ≤ c := by rw [hm0]; exact Pd.own_le (s := 1) (r := r) (A := B) (xs := s.b.map v8) hs (by simp [compM])
 have HZ := Lib.hid zP0
 have RLen := Lib.hid (show RL.length = 8 by rw [hRL]; rfl)
 have R4 := Lib.hid (show RL[4]? = some (.slice B m c) by rw [hRL, hm0]; rfl)
 have R6 := Lib.hid (show ∀ v, (RL.set 4 v)[6]? = some (iv nb) by rw [hRL, hnb0]; intro v; rfl)
 have R7 := Lib.hid (show ∀ v, (RL.set 4 v)[7]? = some (iv np) by rw [hRL, hnp0]; intro v; rfl)
 have R7b := Lib.hid (show ∀ v u, ((RL.set 4 v).set 6 u)[7]? = some (iv np) by rw [hRL, hnp0]; intro v u; rfl)
 have HR2 : Hid (∀ B' c', ((RL.set 4 (.slice B' (m - n) c')).set 6 (iv (nb + n))).set 7 (.int .i64 ((np : Int) + 1)) = rcl (eat s n) B' c') := Lib.hid (fun B' c' => by rw [hRL, hm0, hnb0, hnp0]; simp [rcl, eat])
 have HB : Hid (∀ M : List At, Reads (M ++ .own 1 r B m c (s.b.map v8) :: .blk g3 27 [iv e] :: T) (if c = n then B else B.map (·.add n)) ((s.b.drop n).map v8)) := Lib.hid (fun M => (sl_from (n := n) (Reads.own 0 rfl) htl (fun h => by omega)).app M)
 have HM := Lib.hid hm0
 have HRL := Lib.hid hRL
 have HY := Lib.hid hY
 have hnm : n ≤ m := by omega
 have hml : m ≤ 4194304 := by omega
 have w1 : IntKind.i64.wrap ((nb : Int) + (n : Int)) = ((nb + n : Nat) : Int) := by rw [IntWalk.i64_in _ (by omega)]; omega
 have w2 : IntKind.i64.wrap ((np : Int) + 1) = ((np + 1 : Nat) : Int) := by rw [IntWalk.i64_in _ (by omega)]; omega
 rw [show (#[Value.func (.yield l) #[] #[]] ++ #[Value.pointer (some ⟨b1, 0, none⟩), .pointer (some ⟨b2, 0, none⟩)] : Array Value) = #[.func (.yield l) #[] #[], .pointer (some ⟨b1, 0, none⟩), .pointer (some ⟨b2, 0, none⟩)] from rfl]
 simp only [compM, pR, pO, List.cons_append, List.nil_append] at hs CT ⊢
 rw [← hRL, ← hm0] at hs CT ⊢
 clear hr hl hnb hnp hRL hm0 hnb0 hnp0 htl hY
 go_enter Try.func60, Try.ntmps60
 go_wp2_with fail
 go_loopg [4, 5, 6, 7] 0 (fun gh s4 s5 s6 s7 wr => gh = 0 ∧ St w0 X (.blk b1 26 [.pointer (some ⟨g, 0, none⟩)] :: .blk b2 87 [.pointer (some ⟨g3, 0, none⟩)] :: .blk g 67 RL :: .own 1 r B m c (s.b.map v8) :: .blk g3 27 [iv e0] :: T) wr)
 case atStart => exact ⟨rfl, hs⟩
 case round =>
  clear hs
  rename World => w
  obtain ⟨rfl, hs⟩ := hrel
  go_upto_region 1 with (first | ((with_reducible refine Se.isL (o := ⟨some 8, _, _, _, _, _⟩) ?_); (refine Se.toL rfl (Se.ld (o := ⟨some 8, _, _, _, _, _⟩) hs rfl rfl (Cell.blk 0 rfl rfl) (by kernel_rfl) ?_))) | ((with_reducible refine Se.isL (o := ⟨some 4, _, _, _, _, _⟩) ?_); (refine Se.toL rfl (Se.al (o := ⟨some 4, _, _, _, _, _⟩) hs rfl (HZ.out) ?_); clear hs; rintro w g4 - hs)) | ((with_reducible refine Se.isL (o := ⟨none, _, _, _, _, _⟩) ?_); (refine Se.toL rfl (Se.sow 0 hs rfl rfl rfl rfl ((by exact (pcl _ HPC.out).2)) ((by rw [(pcl _ HPC.out).1]; kernel_rfl)) ((by rw [(pcl _ HPC.out).1]; rfl)) ?_); clear hs; intro w hs; try simp only [List.cons_append, List.nil_append, List.set_cons_zero] at hs)) | (go_at_call 61; refine Calls.mono (CT.out _ hs) ?_; clear hs; rintro e w ⟨r1, EA, ec, r2, DA, dc, PC, rfl, HPC, hs⟩))
  have PCL := Lib.hid (pcl PC HPC.out).1
  by_cases h0 : e = 0
  rotate_left
  ·have e1 := (int_ne h0).1
   have HE := Lib.hid h0
   clear h0 HB HY
   go_wp2_with (first | ((with_reducible refine Se.isL (o := ⟨some 13, _, _, _, _, _⟩) ?_); (refine Se.toL rfl (Se.ld (o := ⟨some 13, _, _, _, _, _⟩) hs rfl rfl (Cell.blk 4 rfl rfl) (by kernel_rfl) ?_))) | ((with_reducible refine Se.isL (o := ⟨none, _, _, _, _, _⟩) ?_); ((first | refine Se.toL rfl (Se.so 7 (v := .int _ _) hs rfl rfl rfl rfl rfl (by kernel_rfl) (by simp) ?_) | refine Se.toL rfl (Se.so 7 (v := .bool _) hs rfl rfl rfl rfl rfl (by kernel_rfl) (by simp) ?_) | refine Se.toL rfl (Se.so 7 (v := .slice _ _ _) hs rfl rfl rfl rfl rfl (by kernel_rfl) (by simp) ?_) | refine Se.toL rfl (Se.so 7 (v := .pointer _) hs rfl rfl rfl rfl rfl (by kernel_rfl) (by simp) ?_) | refine Se.toL rfl (Se.so 7 (v := .string _) hs rfl rfl rfl rfl rfl (by kernel_rfl) (by simp) ?_) | refine Se.toL rfl (Se.so 7 (v := .map _) hs rfl rfl rfl rfl rfl (by kernel_rfl) (by simp) ?_) | refine Se.toL rfl (Se.so 7 (v := .func _ _ _) hs rfl rfl rfl rfl rfl (by kernel_rfl) (by simp) ?_) | refine Se.toL rfl (Se.so 7 (v := .nilFunc) hs rfl rfl rfl rfl rfl (by kernel_rfl) (by simp) ?_)); clear hs; intro w hs; try simp only [List.cons_append, List.nil_append, List.set_cons_zero, List.set_cons_succ] at hs)))
   refine ⟨rfl, _, results_none rfl _ _ _, ⟨_, rfl⟩, .inl ⟨HE.out, ?_⟩⟩
   exact hs.drop.drop.drop
  ·subst h0
   go_upto_region 3 with (first | ((with_reducible refine Se.isL (o := ⟨some 13, _, _, _, _, _⟩) ?_); (refine Se.toL rfl (Se.ld (o := ⟨some 13, _, _, _, _, _⟩) hs rfl rfl (Cell.blk 4 rfl rfl) (by kernel_rfl) ?_))) | ((with_reducible refine Se.isL (o := ⟨none, _, _, _, _, _⟩) ?_); ((first | refine Se.toL rfl (Se.so 7 (v := .int _ _) hs rfl rfl rfl rfl rfl (by kernel_rfl) (by simp) ?_) | refine Se.toL rfl (Se.so 7 (v := .bool _) hs rfl rfl rfl rfl rfl (by kernel_rfl) (by simp) ?_) | refine Se.toL rfl (Se.so 7 (v := .slice _ _ _) hs rfl rfl rfl rfl rfl (by kernel_rfl) (by simp) ?_) | refine Se.toL rfl (Se.so 7 (v := .pointer _) hs rfl rfl rfl rfl rfl (by kernel_rfl) (by simp) ?_) | refine Se.toL rfl (Se.so 7 (v := .string _) hs rfl rfl rfl rfl rfl (by kernel_rfl) (by simp) ?_) | refine Se.toL rfl (Se.so 7 (v := .map _) hs rfl rfl rfl rfl rfl (by kernel_rfl) (by simp) ?_) | refine Se.toL rfl (Se.so 7 (v := .func _ _ _) hs rfl rfl rfl rfl rfl (by kernel_rfl) (by simp) ?_) | refine Se.toL rfl (Se.so 7 (v := .nilFunc) hs rfl rfl rfl rfl rfl (by kernel_rfl) (by simp) ?_)); clear hs; intro w hs; try simp only [List.cons_append, List.nil_append, List.set_cons_zero, List.set_cons_succ] at hs)))
   have k1 : (n : Int) ≤ (m : Int) := by omega
   have HLN := Lib.hid (show m - n = (s.b.drop n).length by rw [List.length_drop, ← HM.out])
   have hmn : m - n ≤ 70368744177664 := by omega
   refine Ch.region' 10 (fun wx => Blk wx b1 [.pointer (some ⟨g, 0, none⟩)] 26 ∧ Blk wx g RL 67) (fun | 7 => true | _ => false) (by kernel_rfl) (by decide +kernel) (⟨hs.drew.hold (.blk b1 26 [.pointer (some ⟨g, 0, none⟩)]) (by simp), hs.drew.hold (.blk g 67 RL) (by simp)⟩) ?_
   replace hs := hs.drew
   generalize w.drew = w at hs ⊢
   change Ch.CW _ _ _ _ _ [0, 1, 2, 3, 4, 5, 6, 7, 8, 9] _ _
   iterate 7 ((first | (refine Ch.pure (v := ?_) (by rfl) (by rfl) (by rfl) (fun wx hS => ?_) ?_; rotate_left; (focus (go_simp; (first | done | with_reducible rfl)))) | refine Ch.pure (v := _) (by rfl) (by rfl) (by rfl) (fun wx hS => Se.xl rfl rfl (by rw [hS.1.cell]; rfl) (by decide +kernel)) ?_ | refine Ch.pure (v := _) (by rfl) (by rfl) (by rfl) (fun wx hS => Se.xl rfl rfl (by rw [hS.2.cell]; exact R4.out) (by decide +kernel)) ?_); (try simp only [Act.put, List.setIfInBounds_toArray, List.set_cons_zero, List.set_cons_succ]))
   refine Ch.noise (by rfl) (by rfl) (by rfl) ?_
   refine Se.gcall (f := 49) (args := #[.slice (if c = n then B else B.map (·.add n)) (m - n) (c - n)]) ?_ ?_
   ·go_simp
   refine Calls.mono (Pd.clone_st hs (HB.out [_, _, _, _, _, _]) HLN.out hmn) ?_
   clear hs
   rintro e w ⟨r', B', c', rfl, hs⟩
   refine ⟨_, rfl, ⟨hs.hold (.blk b1 26 [.pointer (some ⟨g, 0, none⟩)]) (by simp), hs.hold (.blk g 67 RL) (by simp)⟩, ?_⟩
   (try simp only [Act.put, List.setIfInBounds_toArray, List.set_cons_zero, List.set_cons_succ])
   iterate 2 ((first | (refine Ch.pure (v := ?_) (by rfl) (by rfl) (by rfl) (fun wx hS => ?_) ?_; rotate_left; (focus (go_simp; (first | done | with_reducible rfl))))); (try simp only [Act.put, List.setIfInBounds_toArray, List.set_cons_zero, List.set_cons_succ]))
   refine Ch.done ?_
   try simp only [List.drop_succ_cons, List.drop_zero]
   go_upto_region 4 with (first | ((with_reducible refine Se.isL (o := ⟨none, _, _, _, _, _⟩) ?_); ((first | refine Se.toL rfl (Se.so 6 (v := .int _ _) hs rfl rfl rfl rfl rfl (by kernel_rfl) (by rw [RLen.out]; decide) ?_) | refine Se.toL rfl (Se.so 6 (v := .bool _) hs rfl rfl rfl rfl rfl (by kernel_rfl) (by rw [RLen.out]; decide) ?_) | refine Se.toL rfl (Se.so 6 (v := .slice _ _ _) hs rfl rfl rfl rfl rfl (by kernel_rfl) (by rw [RLen.out]; decide) ?_) | refine Se.toL rfl (Se.so 6 (v := .pointer _) hs rfl rfl rfl rfl rfl (by kernel_rfl) (by rw [RLen.out]; decide) ?_) | refine Se.toL rfl (Se.so 6 (v := .string _) hs rfl rfl rfl rfl rfl (by kernel_rfl) (by rw [RLen.out]; decide) ?_) | refine Se.toL rfl (Se.so 6 (v := .map _) hs rfl rfl rfl rfl rfl (by kernel_rfl) (by rw [RLen.out]; decide) ?_) | refine Se.toL rfl (Se.so 6 (v := .func _ _ _) hs rfl rfl rfl rfl rfl (by kernel_rfl) (by rw [RLen.out]; decide) ?_) | refine Se.toL rfl (Se.so 6 (v := .nilFunc) hs rfl rfl rfl rfl rfl (by kernel_rfl) (by rw [RLen.out]; decide) ?_)); clear hs; intro w hs; try simp only [List.cons_append, List.nil_append, List.set_cons_zero, List.set_cons_succ] at hs)))
   refine Ch.region' 18 (fun wx => Blk wx b1 [.pointer (some ⟨g, 0, none⟩)] 26 ∧ wx.cell? ⟨g, 7, none⟩ = some (iv np)) (fun | 5 => true | 15 => true | _ => false) (by kernel_rfl) (by decide +kernel) (⟨hs.drew.hold (.blk b1 26 [.pointer (some ⟨g, 0, none⟩)]) (by simp), (Cell.blk 6 rfl (R7.out _)) _ hs.drew.hold⟩) ?_
   replace hs := hs.drew
   generalize w.drew = w at hs ⊢
   change Ch.CW _ _ _ _ _ [0, 1, 2, 3, 4, 5, 6, 7, 8, 9, 10, 11, 12, 13, 14, 15, 16, 17] _ _
   iterate 5 ((first | (refine Ch.pure (v := ?_) (by rfl) (by rfl) (by rfl) (fun wx hS => ?_) ?_; rotate_left; (focus (go_simp; (first | done | with_reducible rfl)))) | refine Ch.pure (v := _) (by rfl) (by rfl) (by rfl) (fun wx hS => Se.xl rfl rfl (by rw [hS.1.cell]; rfl) (by decide +kernel)) ?_); (try simp only [Act.put, List.setIfInBounds_toArray, List.set_cons_zero, List.set_cons_succ]))
   refine Ch.noise (by rfl) (by rfl) (by rfl) (Se.ld hs rfl rfl (Cell.blk 6 rfl (R6.out _)) (by kernel_rfl) ?_)
   refine ⟨⟨hs.hold (.blk b1 26 [.pointer (some ⟨g, 0, none⟩)]) (by simp), (Cell.blk 6 rfl (R7.out _)) _ hs.hold⟩, ?_⟩
   (try simp only [Act.put, List.setIfInBounds_toArray, List.set_cons_zero, List.set_cons_succ])
   iterate 9 ((first | (refine Ch.pure (v := ?_) (by rfl) (by rfl) (by rfl) (fun wx hS => ?_) ?_; rotate_left; (focus (go_simp; (first | done | with_reducible rfl)))) | refine Ch.pure (v := _) (by rfl) (by rfl) (by rfl) (fun wx hS => Se.xl rfl rfl (by rw [hS.1.cell]; rfl) (by decide +kernel)) ?_ | refine Ch.pure (v := _) (by rfl) (by rfl) (by rfl) (fun wx hS => Se.xl rfl rfl hS.2 (by decide +kernel)) ?_); (try simp only [Act.put, List.setIfInBounds_toArray, List.set_cons_zero, List.set_cons_succ]))
   refine Ch.noise (by rfl) (by rfl) (by rfl) (Se.so 6 (v := iv (nb + n)) hs rfl rfl rfl rfl rfl (by kernel_rfl) (by simp only [List.length_set]; rw [RLen.out]; decide) ?_)
   clear hs
   intro w hs
   simp only [List.cons_append, List.nil_append, List.set_cons_zero, List.set_cons_succ] at hs
   refine ⟨⟨hs.hold (.blk b1 26 [.pointer (some ⟨g, 0, none⟩)]) (by simp), (Cell.blk 6 rfl (R7b.out _ _)) _ hs.hold⟩, ?_⟩
   (try simp only [Act.put, List.setIfInBounds_toArray, List.set_cons_zero, List.set_cons_succ])
   iterate 2 ((first | (refine Ch.pure (v := ?_) (by rfl) (by rfl) (by rfl) (fun wx hS => ?_) ?_; rotate_left; (focus (go_simp; (first | done | with_reducible rfl))))); (try simp only [Act.put, List.setIfInBounds_toArray, List.set_cons_zero, List.set_cons_succ]))
   refine Ch.done ?_
   try simp only [List.drop_succ_cons, List.drop_zero]
   go_upto_region 5 with (first | ((with_reducible refine Se.isL (o := ⟨none, _, _, _, _, _⟩) ?_); ((first | refine Se.toL rfl (Se.so 6 (v := .int _ _) hs rfl rfl rfl rfl rfl (by kernel_rfl) (by simp only [List.length_set]; rw [RLen.out]; decide) ?_) | refine Se.toL rfl (Se.so 6 (v := .bool _) hs rfl rfl rfl rfl rfl (by kernel_rfl) (by simp only [List.length_set]; rw [RLen.out]; decide) ?_) | refine Se.toL rfl (Se.so 6 (v := .slice _ _ _) hs rfl rfl rfl rfl rfl (by kernel_rfl) (by simp only [List.length_set]; rw [RLen.out]; decide) ?_) | refine Se.toL rfl (Se.so 6 (v := .pointer _) hs rfl rfl rfl rfl rfl (by kernel_rfl) (by simp only [List.length_set]; rw [RLen.out]; decide) ?_) | refine Se.toL rfl (Se.so 6 (v := .string _) hs rfl rfl rfl rfl rfl (by kernel_rfl) (by simp only [List.length_set]; rw [RLen.out]; decide) ?_) | refine Se.toL rfl (Se.so 6 (v := .map _) hs rfl rfl rfl rfl rfl (by kernel_rfl) (by simp only [List.length_set]; rw [RLen.out]; decide) ?_) | refine Se.toL rfl (Se.so 6 (v := .func _ _ _) hs rfl rfl rfl rfl rfl (by kernel_rfl) (by simp only [List.length_set]; rw [RLen.out]; decide) ?_) | refine Se.toL rfl (Se.so 6 (v := .nilFunc) hs rfl rfl rfl rfl rfl (by kernel_rfl) (by simp only [List.length_set]; rw [RLen.out]; decide) ?_)); clear hs; intro w hs; try simp only [List.cons_append, List.nil_append, List.set_cons_zero, List.set_cons_succ] at hs)))
   rw [HR2.out] at hs
   (try simp only [Act.put])
   have HCM := Lib.hid HM.out
   refine (Se.wp_WF (n := 0)).1 (wpIn_region_lit ?_)
   iterate 1 (refine Se.qLI (by intro _ h; cases h) (by rfl) (v := ?_) ?_ ?_; rotate_left; (focus (go_simp; (first | done | with_reducible rfl))); (try simp only [Act.put, List.setIfInBounds_toArray, List.set_cons_zero, List.set_cons_succ]))
   refine Se.toLI (by intro _ h; cases h) (by rfl) (Se.ldw hs rfl rfl (Reads.blk 1 rfl) (by rw [PCL.out]; kernel_rfl) (by kernel_rfl) ?_)
   (try simp only [Act.put, List.setIfInBounds_toArray, List.set_cons_zero, List.set_cons_succ])
   iterate 1 (refine Se.qLI (by intro _ h; cases h) (by rfl) (v := ?_) ?_ ?_; rotate_left; (focus (go_simp; (first | done | with_reducible rfl))); (try simp only [Act.put, List.setIfInBounds_toArray, List.set_cons_zero, List.set_cons_succ]))
   replace hs := hs.pull 7 rfl
   replace hs := hs.pull 2 rfl
   replace hs := hs.pull 8 rfl
   replace hs := hs.pull 3 rfl
   replace hs := hs.pull 8 rfl
   replace hs := hs.pull 8 rfl
   replace hs := hs.pull 8 rfl
   replace hs := hs.pull 8 rfl
   replace hs := hs.pull 8 rfl
   simp only [List.eraseIdx_cons_succ, List.eraseIdx_cons_zero] at hs
   have hs2 := hs.sub (List.Sublist.cons_cons _ (List.Sublist.cons_cons _ (List.Sublist.cons_cons _ (List.Sublist.cons_cons _ (List.Sublist.cons_cons _ (List.Sublist.cons_cons _ (List.Sublist.cons_cons _ (.cons _ (.cons _ (List.Sublist.refl _))))))))))
   have YY := HY.out #[.agg PC.toArray, iv n] (.own 1 r1 EA p.en.length ec (p.en.map v8) :: .own 1 r2 DA p.da.length dc (p.da.map v8) :: compM b1 b2 g g3 (eat s n) B' c' r' 0) w ⟨rfl, r1, EA, ec, r2, DA, dc, PC, r', B', c', rfl, HPC, rfl⟩ (by
    simp only [compM, pR, pO, List.cons_append, List.nil_append, eat, List.length_drop, ← HM.out]
    exact hs2)
   clear hs hs2
   refine Se.ylI (by intro _ h; cases h) (by rfl) (l := l) (args := #[.agg PC.toArray, iv n]) (by go_simp) (Se.yieldMono YY rfl ?_)
   rintro e w ⟨rfl, T', HJ', hs⟩
   refine ⟨_, rfl, ?_⟩
   (try simp only [Act.put, List.setIfInBounds_toArray, List.set_cons_zero, List.set_cons_succ])
   iterate 1 (refine Se.qLI (by intro _ h; cases h) (by rfl) (v := ?_) ?_ ?_; rotate_left; (focus (go_simp; (first | done | with_reducible rfl))); (try simp only [Act.put, List.setIfInBounds_toArray, List.set_cons_zero, List.set_cons_succ]))
   refine wpListIn_nil ?_
   simp only [Exit.then]
   go_at_K
   go_wp2_with fail
   all_goals
    refine ⟨rfl, _, results_none rfl _ _ _, ⟨_, rfl⟩, ?_⟩
    first
    | exact ⟨#[.agg PC.toArray, iv n], _, ⟨rfl, r1, EA, ec, r2, DA, dc, PC, r', B', c', rfl, HPC, rfl⟩, T', HJ', hs⟩
    | exact .inr ⟨#[.agg PC.toArray, iv n], _, T', ⟨rfl, r1, EA, ec, r2, DA, dc, PC, r', B', c', rfl, HPC, rfl⟩, HJ', hs⟩
end Sr
end Go.Proofs.Ytdngfcmakjlamaa


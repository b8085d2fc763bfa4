/- Layer 28: Each and what it yields. No condition but Go's own limits. -/
import Derived.Test.YthpgkkfahiglnaaZoneDmg
import Derived.Test.YthpgkkfahiglnaaIter
import Derived.Laws.Cover3
import Derived.Scope
import Derived.WalkMore
set_option maxRecDepth 100000
set_option maxHeartbeats 4000000
set_option linter.unusedSimpArgs false
set_option linter.unusedVariables false
namespace Go.Proofs.Ythpgkkfahiglnaa
open Go Go.RowKit
namespace Zo
open Se (St At Reads Cell)
open Li (Rd Blk Fr)
variable {w0 w : World} {X : List Nat} {L : List At}
attribute [local irreducible] Calls
theorem eql_nil2 (A : Option Addr) (n c : Nat) (w : World) : (binOp .eql 59 (.slice A n c) (.slice none 0 0)).run Try.prog w = .ok (.bool A.isNone) w := by
 simp [binOp, run_equal_slice_nil w 59 _ A n c Try.underlying59]
attribute [local go_sem] eql_nil eql_nil2
def inS (sl : List Int) (x : Zn) : Bool := sl.isEmpty || sl.contains (x.st : Int)
theorem each11_st (hs : St w0 X L w) {sl : List Int} {B : Option Addr} {n c g3 : Nat} (hn : n = sl.length) (hB : Reads L B (ints sl)) (hle : n ≤ 70368744177664) (h3 : Cell L g3 0 (.slice B n c)) (x : Zn) :
  Calls Try.prog 56 #[.agg (oc x).toArray, .pointer (some ⟨g3, 0, none⟩)] w fun e w' => e = .returned (.bool (inS sl x)) ∧ St w0 X L w' := by
 have CH : Hid (∀ (M : List At) (w : World), St w0 X (M ++ L) w → Calls Try.prog 57 #[.slice B n c, .int .i64 (x.st : Int)] w fun e w' => e = .returned (.bool (sl.contains (x.st : Int))) ∧ St w0 X (M ++ L) w') := Lib.hid (fun M w hs => has_st hs hn (hB.app M) hle _ rfl)
 have H3 := Lib.hid h3
 obtain ⟨b, hb⟩ : ∃ b, b = sl.contains (x.st : Int) := ⟨_, rfl⟩
 obtain ⟨O, hO⟩ : ∃ O, O = oc x := ⟨_, rfl⟩
 obtain ⟨s, hs0⟩ : ∃ s, s = x.st := ⟨_, rfl⟩
 have O0 := Lib.hid (show O[0]? = some (iv s) by rw [hO, hs0]; rfl)
 have HI := Lib.hid (show inS sl x = (decide (n = 0) || b) by
  unfold inS
  rw [hb, hn]
  cases sl <;> simp)
 rw [← hb] at CH
 rw [← hs0] at CH
 rw [← hO]
 clear hb hO hs0 hn hB hle h3
 by_cases hn0 : n = 0
 ·have f0 : ((n : Int) == 0) = true := by simp; omega
  have HI2 := Lib.hid (show inS sl x = true by rw [HI.out, hn0]; rfl)
  clear HI CH hn0
  go_enter Try.func56, Try.ntmps56
  go_wp2_with (first | ((with_reducible refine Se.isL (o := ⟨some 4, _, _, _, _, _⟩) ?_); (refine Se.toL rfl (Se.ld (o := ⟨some 4, _, _, _, _, _⟩) hs rfl rfl ((capp [_] H3.out)) (by kernel_rfl) ?_))) | ((first | with_reducible refine Se.ab hs ?_ | with_reducible refine Se.abc hs ?_); clear hs; (first | (generalize w.heap.size = g2; intro w hs))))
  go_ret
  exact ⟨by rw [HI2.out]; rfl, hs.drop⟩
 ·have f0 : ((n : Int) == 0) = false := by simp; omega
  have HI2 := Lib.hid (show inS sl x = b by rw [HI.out, decide_eq_false hn0, Bool.false_or])
  clear HI hn0
  go_enter Try.func56, Try.ntmps56
  go_wp2_with (first | ((with_reducible refine Se.isL (o := ⟨some 4, _, _, _, _, _⟩) ?_); (refine Se.toL rfl (Se.ld (o := ⟨some 4, _, _, _, _, _⟩) hs rfl rfl ((capp [_] H3.out)) (by kernel_rfl) ?_))) | ((with_reducible refine Se.isL (o := ⟨some 8, _, _, _, _, _⟩) ?_); (refine Se.toL rfl (Se.ld (o := ⟨some 8, _, _, _, _, _⟩) hs rfl rfl ((capp [_] H3.out)) (by kernel_rfl) ?_))) | ((with_reducible refine Se.isL (o := ⟨some 10, _, _, _, _, _⟩) ?_); (refine Se.toL rfl (Se.ld (o := ⟨some 10, _, _, _, _, _⟩) hs rfl rfl (Cell.blk 0 rfl O0.out) (by kernel_rfl) ?_))) | ((first | with_reducible refine Se.ab hs ?_ | with_reducible refine Se.abc hs ?_); clear hs; (first | (generalize w.heap.size = g2; intro w hs))) | (go_at_call 57; refine Calls.mono (CH.out [_] _ hs) ?_; clear hs; rintro e w ⟨rfl, hs⟩))
  go_ret
  exact ⟨by rw [HI2.out]; rfl, hs.drop⟩
theorem zs_i : (Try.prog.info? 35).map (fun i => (i.zero, i.size, i.bytes)) = some (some (.int .i64 0), 1, 8) := by kernel_rfl
theorem ints_one (sl : List Int) : ∀ v ∈ ints sl, v.oneCell' = true := by
 intro v hv
 obtain ⟨x, _, rfl⟩ := List.mem_map.1 hv
 rfl
theorem cloneS_st (hs : St w0 X L w) {sl : List Int} {A : Option Addr} {n c : Nat} (hn : n = sl.length) (hr : Reads L A (ints sl)) (hle : n ≤ 1048576) :
  Calls Try.prog 54 #[.slice A n c] w fun e w' => ∃ B r c', e = .returned (.slice B n c') ∧ St w0 X (.own 1 r B n c' (ints sl) :: L) w' := by
 have HR := Lib.hid hr
 have HN := Lib.hid hn
 have HO := Lib.hid (ints_one sl)
 have HL := Lib.hid (show (ints sl).length = n * 1 by simp [ints, hn])
 have HA := Lib.hid (show A = none → sl = [] by
  intro h
  subst h
  cases sl with
  | nil => rfl
  | cons x xs => obtain ⟨g, o, h, _⟩ := (hr w hs.hold).cells (by simp [ints]); cases h)
 clear hr hn
 cases A with
 | none =>
  have hsl := HA.out rfl
  have hn0 : n = 0 := by rw [HN.out, hsl]; rfl
  subst hn0
  have HSL := Lib.hid hsl
  clear HA hsl HR HO HL
  go_enter Try.func54, Try.ntmps54
  go_wp2_with fail
  go_ret
  refine ⟨none, none, 0, rfl, ?_⟩
  rw [HSL.out]
  exact hs.nil_own 1 none
 | some a =>
  clear HA
  go_enter Try.func54, Try.ntmps54
  go_wp2_with (first | ((with_reducible refine Se.isL (o := ⟨some 5, _, _, _, _, _⟩) ?_); (refine Se.toL rfl (Se.bs0 (o := ⟨some 5, _, _, _, _, _⟩) hs rfl Try.underlying59 (by kernel_rfl) ?_); clear hs; rintro w g5 - hs; replace hs := hs.blk_own 1 0 0 (by simp) (Nat.le_refl _) (by decide); simp only [Nat.zero_mul, List.take_zero] at hs)) | ((with_reducible refine Se.isL (o := ⟨some 7, _, _, _, _, _⟩) ?_); (refine Se.toL rfl (Se.ap (o := ⟨some 7, _, _, _, _, _⟩) 0 hs rfl rfl rfl rfl ((HR.out.cons _)) Try.underlying59 zs_i (rfl) (by decide) (HO.out) (HL.out) ((by omega)) ((by omega)) ?_); clear hs; rintro w r B c' hs; try simp only [List.cons_append, List.nil_append, List.set_cons_zero] at hs; try simp only [Nat.zero_add, List.nil_append] at hs; try simp only [Nat.zero_add])))
  go_ret
  exact ⟨B, r, c', rfl, hs⟩
theorem zPt : (Try.prog.info? 25).bind (fun i => i.zero.map (·.cells.toList)) = some [.pointer none] := by kernel_rfl
theorem zIs : (Try.prog.info? 106).bind (fun i => i.zero.map (·.cells.toList)) = some [.slice none 0 0] := by kernel_rfl
abbrev eM (g6 g5 g' nc m : Nat) (NB : Option Addr) (rN : Option Nat) (z : Zs) (a' : Addr) (r' : Option Nat) (c' : Nat) (NL : List Nat) : List At := [pZ g' z (some a') c', pL r' (some a') c' z, .blk g6 106 [.slice NB m nc], .blk g5 25 [.pointer (some ⟨g', 0, none⟩)], .own 1 rN NB m nc (ivs NL)]
def encZ (z : Zs) (i : Nat) : Array Value := #[iv i, .agg (zcV z i).toArray]
theorem each2_seq {g6 g5 g' nc m c' : Nat} {NB : Option Addr} {rN r' : Option Nat} {z : Zs} {a' : Addr} {NL : List Nat} (hm : m = NL.length) (ho : OkZ z) (hnl : ∀ j, (h : j < NL.length) → NL[j] < z.l.length) (hmm : m ≤ 4096) :
  Se.SeqSt Try.prog 58 #[.pointer (some ⟨g6, 0, none⟩), .pointer (some ⟨g5, 0, none⟩)] (encZ z) NL (fun _ => eM g6 g5 g' nc m NB rN z a' r' c' NL) (eM g6 g5 g' nc m NB rN z a' r' c' NL) := by
 intro l w0 X J Jx hY T w h0 hs
 have HO := Lib.hid ho
 have HM := Lib.hid hm
 have HNL := Lib.hid hnl
 have HY := Lib.hid hY
 have H0 := Lib.hid h0
 simp only [eM, List.cons_append, List.nil_append] at hs
 rw [show (#[Value.func (.yield l) #[] #[]] ++ #[Value.pointer (some ⟨g6, 0, none⟩), Value.pointer (some ⟨g5, 0, none⟩)] : Array Value) = #[.func (.yield l) #[] #[], .pointer (some ⟨g6, 0, none⟩), .pointer (some ⟨g5, 0, none⟩)] from rfl]
 rw [← hm]
 clear hm ho hnl hY h0
 go_enter Try.func58, Try.ntmps58
 refine wp_scope_straight ?_
 go_upto_region 0 with (fail)
 go_step3
 go_wp2_with (first | ((with_reducible refine Se.isL (o := ⟨some 8, _, _, _, _, _⟩) ?_); (refine Se.toL rfl (Se.ld (o := ⟨some 8, _, _, _, _, _⟩) hs rfl rfl (Cell.blk 2 rfl rfl) (by kernel_rfl) ?_))))
 go_loopg [10] m (fun gh s10 wr => ∃ (i : Nat) (T' : List At), gh = m - i ∧ i ≤ m ∧ s10 = .int .i64 (i : Int) ∧ Hid (J i T') ∧ St w0 X (pZ g' z (some a') c' :: pL r' (some a') c' z :: .blk g6 106 [.slice NB m nc] :: .blk g5 25 [.pointer (some ⟨g', 0, none⟩)] :: .own 1 rN NB m nc (ivs NL) :: T') wr)
 case atStart => exact ⟨0, T, rfl, Nat.zero_le _, rfl, H0, hs⟩
 case round =>
  clear hs H0 T
  rename World => w
  obtain ⟨i, T, rfl, hi, rfl, HJ, hs⟩ := hrel
  by_cases hlt : i < m
  ·have hlt' : (i : Int) < (m : Int) := by omega
   have hil : i < NL.length := by have := HM.out; omega
   obtain ⟨gb, ob, rfl, rfl⟩ := hs.own_at 4 rfl (by omega)
   obtain ⟨ii, hii⟩ : ∃ q, q = NL[i] := ⟨_, rfl⟩
   have HC := Lib.hid (show (ivs NL)[i]? = some (iv ii) by unfold ivs; rw [List.getElem?_map, List.getElem?_eq_getElem hil, hii]; rfl)
   have hiz : ii < z.l.length := by rw [hii]; exact HNL.out i hil
   have CZ : Hid (∀ (M : List At) (w : World), St w0 X (pZ g' z (some a') c' :: pL r' (some a') c' z :: M) w → Calls Try.prog 15 #[.pointer (some ⟨g', 0, none⟩), .int .i64 (ii : Int)] w fun e' w' => e' = .returned (.tuple #[.agg (zcV z ii).toArray, .int .i64 0]) ∧ St w0 X (pZ g' z (some a') c' :: pL r' (some a') c' z :: M) w') := Lib.hid (fun M w hs => zone_st hs HO.out hiz)
   obtain ⟨Z, hZ⟩ : ∃ Z, Z = zcV z ii := ⟨_, rfl⟩
   have ZL := Lib.hid (show Z.length = 4 by rw [hZ]; rfl)
   have ZO := Lib.hid (show ∀ v ∈ Z, v.oneCell' = true by rw [hZ]; simp [zcV, Value.oneCell'])
   have HE := Lib.hid (show encZ z ii = #[.int .i64 (ii : Int), .agg Z.toArray] by unfold encZ; rw [hZ])
   have YY := Lib.hid (show ∀ W, St w0 X (eM g6 g5 g' nc m (some ⟨gb, ob, none⟩) (some gb) z a' r' c' NL ++ T) W → _ from fun W h => HY.out i ii (by rw [List.getElem?_eq_getElem hil, hii]) T W HJ.out h)
   rw [← hZ] at CZ
   clear hil hii hiz hZ
   go_upto_region 4 with (first | ((with_reducible refine Se.isL (o := ⟨some 13, _, _, _, _, _⟩) ?_); (refine Se.toL rfl (Se.ld (o := ⟨some 13, _, _, _, _, _⟩) hs rfl rfl (((Reads.own 4 rfl).cell i HC.out)) (by kernel_rfl) ?_))) | ((with_reducible refine Se.isL (o := ⟨some 15, _, _, _, _, _⟩) ?_); (refine Se.toL rfl (Se.ld (o := ⟨some 15, _, _, _, _, _⟩) hs rfl rfl (Cell.blk 3 rfl rfl) (by kernel_rfl) ?_))) | ((with_reducible refine Se.isL (o := ⟨some 6, _, _, _, _, _⟩) ?_); (refine Se.toL rfl (Se.al (o := ⟨some 6, _, _, _, _, _⟩) hs rfl (zZo) ?_); clear hs; rintro w g6' - hs)) | ((with_reducible refine Se.isL (o := ⟨none, Op.store 37 _ _, _, _, _, _⟩) ?_); (refine Se.toL rfl (Se.sow 0 hs rfl rfl rfl rfl (ZO.out) ((by rw [ZL.out]; kernel_rfl)) ((by rw [ZL.out]; rfl)) ?_); clear hs; intro w hs; try simp only [List.cons_append, List.nil_append, List.set_cons_zero] at hs)) | (go_at_call 15; refine Calls.mono (CZ.out _ _ hs) ?_; clear hs; rintro e w ⟨rfl, hs⟩))
   refine (Se.wp_WF (n := 0)).1 (wpIn_region_lit ?_)
   iterate 2 (refine Se.qLI (by intro _ h; cases h) (by rfl) (v := ?_) ?_ ?_; rotate_left; (focus (go_simp; (first | done | with_reducible rfl))); (try simp only [Act.put, List.setIfInBounds_toArray, List.set_cons_zero, List.set_cons_succ]))
   refine Se.toLI (by intro _ h; cases h) (by rfl) (Se.ldw hs rfl rfl (Reads.blk 0 rfl) (by rw [ZL.out] <;> kernel_rfl) (by kernel_rfl) ?_)
   (try simp only [Act.put, List.setIfInBounds_toArray, List.set_cons_zero, List.set_cons_succ])
   have hs := hs.drop
   have hw := IntWalk.i64_in ((i : Int) + 1) (by omega)
   refine Se.ylI (by intro _ h; cases h) (by rfl) (l := l) (args := #[.int .i64 (ii : Int), .agg Z.toArray]) (by go_simp) (Se.yieldMono (YY.out w hs) HE.out ?_)
   clear hs
   rintro e w (⟨rfl, T', HJ', hs⟩ | ⟨rfl, T', HJ', hs⟩)
   ·have HJ' := Lib.hid HJ'
    refine ⟨_, rfl, ?_⟩
    (try simp only [Act.put, List.setIfInBounds_toArray, List.set_cons_zero, List.set_cons_succ])
    iterate 1 (refine Se.qLI (by intro _ h; cases h) (by rfl) (v := ?_) ?_ ?_; rotate_left; (focus (go_simp; (first | done | with_reducible rfl))); (try simp only [Act.put, List.setIfInBounds_toArray, List.set_cons_zero, List.set_cons_succ]))
    refine wpListIn_nil ?_
    simp only [Exit.then]
    go_at_K
    go_wp2_with fail
    go_roundg (m - (i + 1))
    case measure => omega
    case rel => exact ⟨i + 1, T', rfl, by omega, by go_num, HJ', hs⟩
   ·refine ⟨_, rfl, ?_⟩
    (try simp only [Act.put, List.setIfInBounds_toArray, List.set_cons_zero, List.set_cons_succ])
    iterate 1 (refine Se.qLI (by intro _ h; cases h) (by rfl) (v := ?_) ?_ ?_; rotate_left; (focus (go_simp; (first | done | with_reducible rfl))); (try simp only [Act.put, List.setIfInBounds_toArray, List.set_cons_zero, List.set_cons_succ]))
    refine wpListIn_nil ?_
    simp only [Exit.then]
    go_at_K
    go_wp2_with fail
    exact ⟨rfl, _, results_none rfl _ _ _, ⟨_, rfl⟩, .inr ⟨i, hlt, T', HJ', hs⟩⟩
  ·obtain rfl : i = m := by omega
   go_wp2_with fail
   refine ⟨rfl, _, results_none rfl _ _ _, ⟨_, rfl⟩, .inl ⟨T, HJ.out, hs⟩⟩
def EachOk (w0 : World) (X : List Nat) (L Lr : List At) (v : Value) (A : Option Addr) (n c : Nat) (z : Zs) (xs : List Nat) : Prop :=
 ∀ w, St w0 X L w → Calls Try.prog 23 #[v, .slice A n c] w fun e w' => ∃ lb M, e = .returned (.func (.func 58) #[] lb) ∧
  Se.SeqSt Try.prog 58 lb (encZ z) xs (fun _ => M) M ∧ St w0 X (M ++ Lr) w'
theorem each_st {g cc : Nat} {z : Zs} {a : Addr} {r : Option Nat} (ho : OkZ z) {sl : List Int} {A : Option Addr} {n c : Nat} (hn : n = sl.length) (hr : Reads L A (ints sl)) (hle : n ≤ 1048576) :
  EachOk w0 X (pZ g z (some a) cc :: pL r (some a) cc z :: L) (pZ g z (some a) cc :: pL r (some a) cc z :: L) (.pointer (some ⟨g, 0, none⟩)) A n c z (numsT (inS sl) z.l z.l.length) := by
 intro w hs
 have hk0 : 1 ≤ z.l.length := by rw [ho.1]; exact ho.2.1
 have hk1 : z.l.length ≤ 4096 := by rw [ho.1]; exact ho.2.2.1
 have CC : Hid (∀ (g3 : Nat) (w : World), St w0 X (.blk g3 59 [.slice A n c] :: pZ g z (some a) cc :: pL r (some a) cc z :: L) w → Calls Try.prog 24 #[.pointer (some ⟨g, 0, none⟩)] w fun e w' => ∃ g' a' r' c', e = .returned (.pointer (some ⟨g', 0, none⟩)) ∧ St w0 X (pZ g' z (some a') c' :: pL r' (some a') c' z :: .blk g3 59 [.slice A n c] :: pZ g z (some a) cc :: pL r (some a) cc z :: L) w') := Lib.hid (fun g3 w hs => (copy_st hs.u11 (Reads.own 1 rfl) hk0 (by omega)).mono (by
  rintro e w' ⟨g', a', r', c', h1, h2⟩
  exact ⟨g', a', r', c', h1, h2.perm (List.Perm.cons _ (List.Perm.cons _ (List.Perm.swap _ _ _)))⟩))
 have HR := Lib.hid (show ∀ M : List At, Reads (M ++ pZ g z (some a) cc :: pL r (some a) cc z :: L) A (ints sl) from fun M => ((hr.cons _).cons _).app M)
 have HN := Lib.hid hn
 have HO := Lib.hid ho
 have HK := Lib.hid (And.intro hk0 hk1)
 have HNL : Hid (∀ j, (h : j < (numsT (inS sl) z.l z.l.length).length) → (numsT (inS sl) z.l z.l.length)[j] < z.l.length) := Lib.hid (fun j h => numsT_lt h)
 have HNN := Lib.hid (show (numsT (inS sl) z.l z.l.length).length ≤ z.l.length from numsT_le _ _ _)
 obtain ⟨NL, hNL⟩ : ∃ N, N = numsT (inS sl) z.l z.l.length := ⟨_, rfl⟩
 have CS : Hid (∀ (M : List At) (w : World), St w0 X (M ++ pZ g z (some a) cc :: pL r (some a) cc z :: L) w → Calls Try.prog 54 #[.slice A n c] w fun e w' => ∃ B r' c', e = .returned (.slice B n c') ∧ St w0 X (.own 1 r' B n c' (ints sl) :: (M ++ pZ g z (some a) cc :: pL r (some a) cc z :: L)) w') := Lib.hid (fun M w hs => cloneS_st hs HN.out (HR.out M) hle)
 have CN : Hid (∀ (g3 g' : Nat) (a' : Addr) (r' : Option Nat) (c' : Nat) (B : Option Addr) (r2 : Option Nat) (c2 : Nat) (M1 M : List At) (w : World), St w0 X (.own 1 r2 B n c2 (ints sl) :: (M1 ++ .blk g3 59 [.slice B n c2] :: M)) w → Reads (.own 1 r2 B n c2 (ints sl) :: (M1 ++ .blk g3 59 [.slice B n c2] :: M)) (some a') (ocs z.l) → Calls Try.prog 55 #[.slice (some a') z.l.length c', .func (.func 56) #[] #[.pointer (some ⟨g3, 0, none⟩)]] w fun e w' => ∃ r B' c3, e = .returned (.slice B' NL.length c3) ∧ St w0 X (.own 1 r B' NL.length c3 (ivs NL) :: .own 1 r2 B n c2 (ints sl) :: (M1 ++ .blk g3 59 [.slice B n c2] :: M)) w') := Lib.hid (fun g3 g' a' r' c' B r2 c2 M1 M w hs hrz => by
  refine (numbers_e (p := inS sl) (l := z.l) (bnd := #[.pointer (some ⟨g3, 0, none⟩)]) hs rfl hrz HK.out.2 HK.out.1 (fun x M2 w hs => each11_st (c := c2) hs HN.out ((Reads.own 0 rfl).app M2) (by omega) ?_ x)).mono ?_
  ·exact capp M2 (capp (_ :: M1) (Cell.blk 0 rfl rfl))
  ·rintro e w ⟨r, B', c3, h1, h2⟩
   rw [← hNL] at h1 h2
   exact ⟨r, B', c3, h1, h2⟩)
 rw [← hNL] at HNL HNN ⊢
 have FIN : Hid (∀ (g6 g5 g' nc : Nat) (NB : Option Addr) (rN : Option Nat) (a' : Addr) (r' : Option Nat) (c' : Nat), Se.SeqSt Try.prog 58 #[.pointer (some ⟨g6, 0, none⟩), .pointer (some ⟨g5, 0, none⟩)] (encZ z) NL (fun _ => eM g6 g5 g' nc NL.length NB rN z a' r' c' NL) (eM g6 g5 g' nc NL.length NB rN z a' r' c' NL)) := Lib.hid (fun g6 g5 g' nc NB rN a' r' c' => each2_seq rfl HO.out HNL.out (by have := HNN.out; have := HK.out; omega))
 have C5 : Hid (∀ (a' : Addr) (c' : Nat), (zcl z (some a') c')[5]? = some (.slice (some a') z.l.length c')) := Lib.hid (fun _ _ => rfl)
 clear ho hn hr hk0 hk1 hNL HNL HNN HO HR
 go_enter Try.func23, Try.ntmps23
 go_wp2_with (first | ((with_reducible refine Se.isL (o := ⟨some 5, _, _, _, _, _⟩) ?_); (refine Se.toL rfl (Se.al (o := ⟨some 5, _, _, _, _, _⟩) hs rfl (zPt) ?_); clear hs; rintro w g5 - hs)) | ((with_reducible refine Se.isL (o := ⟨some 6, _, _, _, _, _⟩) ?_); (refine Se.toL rfl (Se.al (o := ⟨some 6, _, _, _, _, _⟩) hs rfl (zIs) ?_); clear hs; rintro w g6 - hs)) | ((with_reducible refine Se.isL (o := ⟨none, Op.store 25 _ _, _, _, _, _⟩) ?_); ((first | refine Se.toL rfl (Se.so 1 (v := .int _ _) hs rfl rfl rfl rfl rfl (by kernel_rfl) (by simp) ?_) | refine Se.toL rfl (Se.so 1 (v := .bool _) hs rfl rfl rfl rfl rfl (by kernel_rfl) (by simp) ?_) | refine Se.toL rfl (Se.so 1 (v := .slice _ _ _) hs rfl rfl rfl rfl rfl (by kernel_rfl) (by simp) ?_) | refine Se.toL rfl (Se.so 1 (v := .pointer _) hs rfl rfl rfl rfl rfl (by kernel_rfl) (by simp) ?_) | refine Se.toL rfl (Se.so 1 (v := .string _) hs rfl rfl rfl rfl rfl (by kernel_rfl) (by simp) ?_) | refine Se.toL rfl (Se.so 1 (v := .map _) hs rfl rfl rfl rfl rfl (by kernel_rfl) (by simp) ?_) | refine Se.toL rfl (Se.so 1 (v := .func _ _ _) hs rfl rfl rfl rfl rfl (by kernel_rfl) (by simp) ?_) | refine Se.toL rfl (Se.so 1 (v := .nilFunc) hs rfl rfl rfl rfl rfl (by kernel_rfl) (by simp) ?_)); clear hs; intro w hs; try simp only [List.cons_append, List.nil_append, List.set_cons_zero, List.set_cons_succ] at hs)) | ((with_reducible refine Se.isL (o := ⟨none, Op.store 106 _ _, _, _, _, _⟩) ?_); ((first | refine Se.toL rfl (Se.so 0 (v := .int _ _) hs rfl rfl rfl rfl rfl (by kernel_rfl) (by simp) ?_) | refine Se.toL rfl (Se.so 0 (v := .bool _) hs rfl rfl rfl rfl rfl (by kernel_rfl) (by simp) ?_) | refine Se.toL rfl (Se.so 0 (v := .slice _ _ _) hs rfl rfl rfl rfl rfl (by kernel_rfl) (by simp) ?_) | refine Se.toL rfl (Se.so 0 (v := .pointer _) hs rfl rfl rfl rfl rfl (by kernel_rfl) (by simp) ?_) | refine Se.toL rfl (Se.so 0 (v := .string _) hs rfl rfl rfl rfl rfl (by kernel_rfl) (by simp) ?_) | refine Se.toL rfl (Se.so 0 (v := .map _) hs rfl rfl rfl rfl rfl (by kernel_rfl) (by simp) ?_) | refine Se.toL rfl (Se.so 0 (v := .func _ _ _) hs rfl rfl rfl rfl rfl (by kernel_rfl) (by simp) ?_) | refine Se.toL rfl (Se.so 0 (v := .nilFunc) hs rfl rfl rfl rfl rfl (by kernel_rfl) (by simp) ?_)); clear hs; intro w hs; try simp only [List.cons_append, List.nil_append, List.set_cons_zero] at hs)) | ((with_reducible refine Se.isL (o := ⟨some 9, _, _, _, _, _⟩) ?_); (refine Se.toL rfl (Se.ld (o := ⟨some 9, _, _, _, _, _⟩) hs rfl rfl (Cell.blk 1 rfl rfl) (by kernel_rfl) ?_))) | ((with_reducible refine Se.isL (o := ⟨some 11, _, _, _, _, _⟩) ?_); (refine Se.toL rfl (Se.ld (o := ⟨some 11, _, _, _, _, _⟩) hs rfl rfl (Cell.blk 4 rfl rfl) (by kernel_rfl) ?_))) | ((with_reducible refine Se.isL (o := ⟨none, Op.store 59 _ _, _, _, _, _⟩) ?_); ((first | refine Se.toL rfl (Se.so 5 (v := .int _ _) hs rfl rfl rfl rfl rfl (by kernel_rfl) (by simp) ?_) | refine Se.toL rfl (Se.so 5 (v := .bool _) hs rfl rfl rfl rfl rfl (by kernel_rfl) (by simp) ?_) | refine Se.toL rfl (Se.so 5 (v := .slice _ _ _) hs rfl rfl rfl rfl rfl (by kernel_rfl) (by simp) ?_) | refine Se.toL rfl (Se.so 5 (v := .pointer _) hs rfl rfl rfl rfl rfl (by kernel_rfl) (by simp) ?_) | refine Se.toL rfl (Se.so 5 (v := .string _) hs rfl rfl rfl rfl rfl (by kernel_rfl) (by simp) ?_) | refine Se.toL rfl (Se.so 5 (v := .map _) hs rfl rfl rfl rfl rfl (by kernel_rfl) (by simp) ?_) | refine Se.toL rfl (Se.so 5 (v := .func _ _ _) hs rfl rfl rfl rfl rfl (by kernel_rfl) (by simp) ?_) | refine Se.toL rfl (Se.so 5 (v := .nilFunc) hs rfl rfl rfl rfl rfl (by kernel_rfl) (by simp) ?_)); clear hs; intro w hs; try simp only [List.cons_append, List.nil_append, List.set_cons_zero, List.set_cons_succ] at hs)) | ((with_reducible refine Se.isL (o := ⟨some 13, _, _, _, _, _⟩) ?_); (refine Se.toL rfl (Se.ld (o := ⟨some 13, _, _, _, _, _⟩) hs rfl rfl (Cell.blk 2 rfl rfl) (by kernel_rfl) ?_))) | ((with_reducible refine Se.isL (o := ⟨some 16, _, _, _, _, _⟩) ?_); (refine Se.toL rfl (Se.ld (o := ⟨some 16, _, _, _, _, _⟩) hs rfl rfl (Cell.blk 3 rfl (C5.out _ _)) (by kernel_rfl) ?_))) | ((with_reducible refine Se.isL (o := ⟨none, Op.store 106 _ _, _, _, _, _⟩) ?_); ((first | refine Se.toL rfl (Se.so 2 (v := .int _ _) hs rfl rfl rfl rfl rfl (by kernel_rfl) (by simp) ?_) | refine Se.toL rfl (Se.so 2 (v := .bool _) hs rfl rfl rfl rfl rfl (by kernel_rfl) (by simp) ?_) | refine Se.toL rfl (Se.so 2 (v := .slice _ _ _) hs rfl rfl rfl rfl rfl (by kernel_rfl) (by simp) ?_) | refine Se.toL rfl (Se.so 2 (v := .pointer _) hs rfl rfl rfl rfl rfl (by kernel_rfl) (by simp) ?_) | refine Se.toL rfl (Se.so 2 (v := .string _) hs rfl rfl rfl rfl rfl (by kernel_rfl) (by simp) ?_) | refine Se.toL rfl (Se.so 2 (v := .map _) hs rfl rfl rfl rfl rfl (by kernel_rfl) (by simp) ?_) | refine Se.toL rfl (Se.so 2 (v := .func _ _ _) hs rfl rfl rfl rfl rfl (by kernel_rfl) (by simp) ?_) | refine Se.toL rfl (Se.so 2 (v := .nilFunc) hs rfl rfl rfl rfl rfl (by kernel_rfl) (by simp) ?_)); clear hs; intro w hs; try simp only [List.cons_append, List.nil_append, List.set_cons_zero, List.set_cons_succ] at hs)) | ((first | with_reducible refine Se.ab hs ?_ | with_reducible refine Se.abc hs ?_); clear hs; (first | (generalize w.heap.size = g3; intro w hs))) | (go_at_call 24; refine Calls.mono (CC.out _ _ hs) ?_; clear hs; rintro e w ⟨g', a', r', c', rfl, hs⟩) | (go_at_call 54; refine Calls.mono (CS.out [_, _, _, _, _] _ hs) ?_; clear hs; rintro e w ⟨B, r2, c2, rfl, hs⟩) | (go_at_call 55; refine Calls.mono (CN.out _ g' _ r' _ _ _ _ [_, _, _, _] _ _ hs (Reads.own 4 rfl)) ?_; clear hs; rintro e w ⟨rN, NB, nc, rfl, hs⟩))
 go_ret
 refine ⟨#[.pointer (some ⟨g6, 0, none⟩), .pointer (some ⟨g5, 0, none⟩)], _, rfl, FIN.out g6 g5 g' nc NB rN a' r' c', ?_⟩
 simp only [List.cons_append, List.nil_append] at hs ⊢
 replace hs := hs.pull 6 rfl
 replace hs := hs.pull 2 rfl
 replace hs := hs.pull 2 rfl
 replace hs := hs.pull 4 rfl
 replace hs := hs.pull 4 rfl
 replace hs := hs.pull 6 rfl
 replace hs := hs.pull 6 rfl
 simp only [List.eraseIdx_cons_succ, List.eraseIdx_cons_zero] at hs
 exact hs.sub (List.Sublist.cons_cons _ (List.Sublist.cons_cons _ (List.Sublist.cons_cons _ (List.Sublist.cons_cons _ (List.Sublist.cons_cons _ (.cons _ (.cons _ (List.Sublist.refl _))))))))
end Zo
end Go.Proofs.Ythpgkkfahiglnaa


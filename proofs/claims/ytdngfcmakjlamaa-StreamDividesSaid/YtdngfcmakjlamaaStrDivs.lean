/- Layer 36: the law StreamDivides, the walk. No condition but Go's own limits. -/
import Derived.Test.YtdngfcmakjlamaaStrDrain
import Derived.Test.YtdngfcmakjlamaaStrKnown
set_option linter.unusedSimpArgs false
set_option linter.unusedVariables false
namespace Go.Proofs.Ytdngfcmakjlamaa
open Go Go.RowKit
namespace Sr
open Pd (Fm PDU meas dec framed pc iv fl fv encE)
open Se (St At Reads Cell)
open Li (v8 v8_one Rd Blk Fr)
open Bv (n8 n16 n32 n64)
variable {w0 w : World} {X : List Nat} {L : List At} {s s' : Rc} {g c c2 : Nat} {B B2 : Option Addr} {r : Option Nat}
attribute [local irreducible] Calls drn
theorem drn_nb : ∀ (k : Nat) (s : Rc), s.e = 0 → s.np ≤ s.nb → (drn k s).2.2.nb + (drn k s).2.2.b.length ≤ s.nb + s.b.length ∧ (drn k s).2.2.np ≤ (drn k s).2.2.nb
 | 0, s, _, h => by simp only [drn]; exact ⟨Nat.le_refl _, h⟩
 | k + 1, s, h0, h => by
  simp only [drn]
  obtain ⟨p, n, e, ht, (⟨_, hn⟩ | ⟨h9, he, hn⟩ | ⟨he, hp, hl, hn⟩)⟩ := next_cases s h0
  ·rw [hn, if_pos (by simp)]
   exact ⟨Nat.le_refl _, h⟩
  ·rw [hn, if_pos (by simpa using he)]
   exact ⟨by dsimp only [List.length_nil]; omega, h⟩
  ·rw [hn, if_neg (by simp)]
   have ih := drn_nb k { s with b := s.b.drop n, nb := s.nb + n, np := s.np + 1 } h0 (by dsimp only; omega)
   dsimp only at ih ⊢
   rw [List.length_drop] at ih
   exact ⟨by omega, ih.2⟩
/-- What holds ahead of a round of the law's loop. -/
def DI (want : List PDU) (last : Nat) (xb : List (BitVec 8)) (k i d : Nat) (s : Rc) (gs : List PDU) (ee : Nat) : Prop :=
 d ≤ xb.length ∧ s.mo ≠ 0 ∧ s.nb + s.b.length ≤ d ∧ s.np ≤ s.nb ∧
 ((ee = 9 ∧ s.e = 0 ∧ (nextE s).2.2 = 9 ∧ gs ++ (drn 1000 { s with b := s.b ++ xb.drop d }).1 = want ∧ (drn 1000 { s with b := s.b ++ xb.drop d }).2.1 = last ∧ (k < i → d = xb.length)) ∨ (ee ≠ 9 ∧ ee ≠ 0 ∧ s.e = ee ∧ gs = want ∧ ee = last))
theorem DI.start {want : List PDU} {last : Nat} {xb : List (BitVec 8)} {k : Nat} (f : Fm) (m : Nat) (hm : m ≠ 0) {sx : Rc} (h : drn 1000 { f := f, mo := m, b := xb } = (want, last, sx)) : DI want last xb k 0 0 { f := f, mo := m } [] 9 := by
 refine ⟨Nat.zero_le _, hm, Nat.le_refl _, Nat.le_refl _, .inl ⟨rfl, rfl, ?_, ?_, ?_, fun h => by omega⟩⟩
 ·unfold nextE takeE
  simp
 ·simp only [List.nil_append, List.drop_zero]
  rw [h]
 ·simp only [List.nil_append, List.drop_zero]
  rw [h]
theorem DI.go {want : List PDU} {last : Nat} {xb : List (BitVec 8)} {k i d : Nat} {gs : List PDU} (h : DI want last xb k i d s gs 9) (hxb : xb.length ≤ 4000) {q : Nat} (hq : d + q ≤ xb.length) (hk : i = k → d + q = xb.length) (hik : i ≤ k) :
  addE s ((xb.drop d).take q) = ({ s with b := s.b ++ (xb.drop d).take q }, 0) ∧ okR { s with b := s.b ++ (xb.drop d).take q } 1000 ∧ DI want last xb k (i + 1) (d + q) (drn 1000 { s with b := s.b ++ (xb.drop d).take q }).2.2 (gs ++ (drn 1000 { s with b := s.b ++ (xb.drop d).take q }).1) (drn 1000 { s with b := s.b ++ (xb.drop d).take q }).2.1 := by
 obtain ⟨h1, h2, h3, h4, (⟨_, h5, h6, h7, h8, h9⟩ | ⟨h5, _⟩)⟩ := h
 rotate_left
 ·exact absurd rfl h5
 have hql : ((xb.drop d).take q).length = q := by rw [List.length_take, List.length_drop]; omega
 have hrl : (xb.drop (d + q)).length = xb.length - (d + q) := List.length_drop
 obtain ⟨s1, hs1⟩ : ∃ s1 : Rc, s1 = { s with b := s.b ++ (xb.drop d).take q } := ⟨_, rfl⟩
 have b1 : s1.b.length = s.b.length + q := by rw [hs1]; simp only [List.length_append]; omega
 have e1 : s1.e = 0 := by rw [hs1]; exact h5
 have n1 : s1.nb = s.nb ∧ s1.np = s.np ∧ s1.mo = s.mo := by rw [hs1]; exact ⟨rfl, rfl, rfl⟩
 have hcat : ({ s with b := s.b ++ xb.drop d } : Rc) = { s1 with b := s1.b ++ xb.drop (d + q) } := by
  rw [hs1]
  simp only [List.append_assoc]
  congr 2
  rw [← List.drop_drop]
  exact (List.take_append_drop q _).symm
 rw [hcat] at h7 h8
 have ha : addE s ((xb.drop d).take q) = (s1, 0) := by
  unfold addE
  rw [if_neg (by simpa using h5), if_neg (by omega), hs1]
 rw [← hs1, ha]
 have hnb := drn_nb 1000 s1 e1 (by omega)
 have hend := drn_end 1000 s1 e1 (by omega)
 refine ⟨rfl, ⟨by omega, e1, by omega, by omega, by omega, by omega⟩, hq, ?_, by omega, hnb.2, ?_⟩
 ·rw [hend.2.2.1, n1.2.2]; exact h2
 ·by_cases hh : (drn 1000 s1).2.1 = 9
  ·have ha := drn_app 1000 s1 (xb.drop (d + q)) e1 (by omega) hh
   rw [ha] at h7 h8
   refine .inl ⟨hh, (hend.2.2.2.2.1 hh).1, (hend.2.2.2.2.1 hh).2, ?_, h8, fun h => hk (by omega)⟩
   rw [List.append_assoc]
   exact h7
  ·have ha := drn_err 1000 s1 (xb.drop (d + q)) e1 (by omega) hh
   rw [ha.1] at h7
   rw [ha.2] at h8
   exact .inr ⟨hh, hend.1, hend.2.2.2.2.2 hh, h7, h8⟩
theorem DI.skip {want : List PDU} {last : Nat} {xb : List (BitVec 8)} {k i d ee : Nat} {gs : List PDU} (h : DI want last xb k i d s gs ee) (he : ee ≠ 9) (x : List (BitVec 8)) : addE s x = (s, ee) ∧ DI want last xb k (i + 1) d s gs ee := by
 obtain ⟨h1, h2, h3, h4, (⟨h5, _⟩ | ⟨h5, h6, h7, h8, h9⟩)⟩ := h
 ·exact absurd h5 he
 ·refine ⟨?_, h1, h2, h3, h4, .inr ⟨h5, h6, h7, h8, h9⟩⟩
  unfold addE
  rw [if_pos (by rw [h7]; exact h6), h7]
theorem DI.fin {want : List PDU} {last : Nat} {xb : List (BitVec 8)} {k i d ee : Nat} {gs : List PDU} (h : DI want last xb k i d s gs ee) (hi : k < i) : gs = want ∧ ee = last := by
 obtain ⟨h1, h2, h3, h4, (⟨h5, h6, h7, h8, h9, h10⟩ | ⟨h5, h6, h7, h8, h9⟩)⟩ := h
 ·have hd := h10 hi
  rw [hd, List.drop_length, List.append_nil] at h8 h9
  have h11 := drn_dry 1000 s (by decide) h7
  rw [h11.1, List.append_nil] at h8
  rw [h11.2] at h9
  exact ⟨h8, by omega⟩
 ·exact ⟨h8, h9⟩
theorem PP.append {R Q : List (List Value)} {ps qs : List PDU} (h : PP L R ps) (k : PP L Q qs) : PP L (R ++ Q) (ps ++ qs) := by
 refine ⟨by simp [h.1, k.1], fun i PC p h1 h2 => ?_⟩
 by_cases hi : i < R.length
 ·rw [List.getElem?_append_left hi] at h1
  rw [List.getElem?_append_left (by rw [← h.1]; exact hi)] at h2
  exact h.2 i PC p h1 h2
 ·rw [List.getElem?_append_right (by omega)] at h1
  rw [List.getElem?_append_right (by rw [← h.1]; omega), ← h.1] at h2
  exact k.2 _ PC p h1 h2
theorem drain_m (M : List At) (hs : St w0 X (M ++ pR g s B c :: pO r B c s :: L) w) (hk : okR s 1000) {ps : List PDU} {e : Nat} (hr : drn 1000 s = (ps, e, s')) :
  Calls Try.prog 12 #[.pointer (some ⟨g, 0, none⟩)] w fun e' w' => ∃ ro A cA R T r' B' c', e' = .returned (.tuple #[.slice A ps.length cA, iv e]) ∧ Hid (PP T R ps) ∧ St w0 X (.own 14 ro A ps.length cA R.flatten :: (M ++ pR g s' B' c' :: pO r' B' c' s' :: (T ++ L))) w' := by
 refine (drain_st (hs.perm (mid2 M)) hk hr).mono ?_
 rintro e' w' ⟨ro, A, cA, R, T, r', B', c', h1, h2, h3⟩
 refine ⟨ro, A, cA, R, T, r', B', c', h1, h2, h3.perm (List.Perm.cons _ ?_)⟩
 refine List.Perm.trans ?_ (mid2 M).symm
 exact List.Perm.cons _ (List.Perm.cons _ (List.perm_append_comm_assoc T M L))
theorem drn_len : ∀ (k : Nat) (s : Rc), (drn k s).1.length ≤ k
 | 0, s => by simp only [drn]; exact Nat.zero_le _
 | k + 1, s => by
  simp only [drn]
  split
  ·exact Nat.zero_le _
  ·have := drn_len k (nextE s).1
   simp only [List.length_cons]
   omega
theorem DI.len {want : List PDU} {last : Nat} {xb : List (BitVec 8)} {k i d ee : Nat} {gs : List PDU} (h : DI want last xb k i d s gs ee) : gs.length ≤ want.length := by
 obtain ⟨h1, h2, h3, h4, (⟨h5, h6, h7, h8, h9, h10⟩ | ⟨h5, h6, h7, h8, h9⟩)⟩ := h
 ·rw [← h8, List.length_append]; omega
 ·rw [h8]; exact Nat.le_refl _
theorem PP.one {R : List (List Value)} {ps : List PDU} (h : PP L R ps) : ∀ v ∈ R.flatten, v.oneCell' = true := by
 intro v hv
 obtain ⟨x, hx, hvx⟩ := List.mem_flatten.1 hv
 obtain ⟨i, hi, rfl⟩ := List.getElem_of_mem hx
 obtain ⟨EA, ec, DA, dc, h3, _, _⟩ := h.2 i R[i] (ps[i]'(by rw [← h.1]; exact hi)) (List.getElem?_eq_getElem hi) (List.getElem?_eq_getElem _)
 rw [h3] at hvx
 exact Pd.pc_one _ _ _ _ _ _ _ v hvx
theorem PP.flen {R : List (List Value)} {ps : List PDU} (h : PP L R ps) : R.flatten.length = ps.length * 14 := by
 rw [flat_len R h.len, h.1]
/-- Where a slice's rest begins. -/
def slB (B : Option Addr) (n c : Nat) : Option Addr := if c = n then B else B.map (·.add n)
set_option maxRecDepth 100000 in
set_option maxRecDepth 100000 in
set_option maxHeartbeats 4000000 in
theorem divides_st (hs : St w0 X L w) (f : Fm) (mo : Int) {A : Option Addr} {xb : List (BitVec 8)} {n ca : Nat} (hn : n = xb.length) (hA : Reads L A (xb.map v8)) (hnc : n ≤ ca) {AP : Option Addr} {yp : List (BitVec 8)} {k cp : Nat} (hkk : k = yp.length) (hP : Reads L AP (yp.map v8)) :
  Calls Try.prog 3 #[fv f, .int .i64 mo, .slice A n ca, .slice AP k cp] w fun e' w' => e' = .returned (.bool true) ∧ St w0 X L w' := by
 obtain ⟨F, hF⟩ : ∃ F, F = fl f := ⟨_, rfl⟩
 have FL := Lib.hid (show F.length = 3 by rw [hF]; rfl)
 have CK : Hid (∀ (M : List At) (w : World), St w0 X (M ++ L) w → Calls Try.prog 9 #[] w fun e' w' => e' = .returned (.bool true) ∧ St w0 X (M ++ L) w') := Lib.hid (fun M w hs => known_st hs)
 have HN := Lib.hid hn
 have HK := Lib.hid hkk
 have HA := Lib.hid hA
 have HP := Lib.hid hP
 rw [Pd.fv_eq, ← hF]
 clear hkk hA hP
 by_cases h4 : 4000 < n
 ·have d1 : decide (4000 < (n : Int)) = true := by simp; omega
  clear h4 hn hF
  go_enter Try.func3, Try.ntmps3
  go_wp2_with (first | ((first | with_reducible refine Se.ab hs ?_ | with_reducible refine Se.abc hs ?_); clear hs; (first | (generalize w.heap.size = g4; intro w hs))) | (go_at_call 9; refine Calls.mono (CK.out [_] _ hs) ?_; clear hs; rintro e w ⟨rfl, hs⟩))
  go_ret
  exact ⟨rfl, hs.drop⟩
 have d1 : decide (4000 < (n : Int)) = false := by simp; omega
 by_cases h3 : 300 < k
 ·have d2 : decide (300 < (k : Int)) = true := by simp; omega
  clear h4 h3 hn hF
  go_enter Try.func3, Try.ntmps3
  go_wp2_with (first | ((first | with_reducible refine Se.ab hs ?_ | with_reducible refine Se.abc hs ?_); clear hs; (first | (generalize w.heap.size = g4; intro w hs))) | (go_at_call 9; refine Calls.mono (CK.out [_] _ hs) ?_; clear hs; rintro e w ⟨rfl, hs⟩))
  go_ret
  exact ⟨rfl, hs.drop⟩
 have d2 : decide (300 < (k : Int)) = false := by simp; omega
 by_cases hf : fits f mo = true
 rotate_left
 ·have hf' : fits f mo = false := by simpa using hf
  have CN : Hid (∀ (M : List At) (w : World), St w0 X M w → Calls Try.prog 10 #[.agg F.toArray, .int .i64 mo] w fun e w' => e = .returned (.tuple #[.pointer none, iv 2]) ∧ St w0 X M w') := Lib.hid (fun M w hs => by rw [hF, ← Pd.fv_eq]; exact new_no hs f mo hf')
  clear hf hf' hF hn
  go_enter Try.func3, Try.ntmps3
  go_wp2_with (first | ((with_reducible refine Se.isL (o := ⟨some 33, _, _, _, _, _⟩) ?_); (refine Se.toL rfl (Se.ldw (o := ⟨some 33, _, _, _, _, _⟩) hs rfl rfl ((Reads.blk 0 rfl)) ((by rw [FL.out]; kernel_rfl)) (by kernel_rfl) ?_))) | ((with_reducible refine Se.isL (o := ⟨some 39, _, _, _, _, _⟩) ?_); (refine Se.toL rfl (Se.ldw (o := ⟨some 39, _, _, _, _, _⟩) hs rfl rfl ((Reads.blk 0 rfl)) ((by rw [FL.out]; kernel_rfl)) (by kernel_rfl) ?_))) | ((first | with_reducible refine Se.ab hs ?_ | with_reducible refine Se.abc hs ?_); clear hs; (first | (generalize w.heap.size = g4; intro w hs))) | (go_at_call 10; refine Calls.mono (CN.out _ _ hs) ?_; clear hs; rintro e w ⟨rfl, hs⟩) | (go_at_call 9; refine Calls.mono (CK.out [_] _ hs) ?_; clear hs; rintro e w ⟨rfl, hs⟩))
  go_ret
  exact ⟨rfl, hs.drop⟩
 have hm : ∃ m : Nat, mo = (m : Int) ∧ m ≠ 0 := by
  unfold fits at hf
  simp only [Bool.and_eq_true, decide_eq_true_eq] at hf
  exact ⟨mo.toNat, by omega, by omega⟩
 obtain ⟨m, rfl, hm0⟩ := hm
 have CN : Hid (∀ (M : List At) (w : World), St w0 X M w → Calls Try.prog 10 #[.agg F.toArray, .int .i64 (m : Int)] w fun e w' => ∃ g, e = .returned (.tuple #[.pointer (some ⟨g, 0, none⟩), iv 0]) ∧ St w0 X (pR g { f := f, mo := m } none 0 :: pO none none 0 { f := f, mo := m } :: M) w') := Lib.hid (fun M w hs => by rw [hF, ← Pd.fv_eq]; exact new_yes hs f m hf)
 obtain ⟨⟨want, last, sx⟩, hdr⟩ : ∃ x, drn 1000 { f := f, mo := m, b := xb } = x := ⟨_, rfl⟩
 have HDR := Lib.hid hdr
 have HM0 := Lib.hid hm0
 have hxb : addE { f := f, mo := m } xb = ({ f := f, mo := m, b := xb }, 0) := by
  unfold addE
  rw [if_neg (by simp), if_neg (by simp only [List.length_nil]; omega)]
  rfl
 have HXB := Lib.hid hxb
 have HOK : Hid (okR { f := f, mo := m, b := xb } 1000) := Lib.hid ⟨hm0, rfl, by dsimp only; omega, by dsimp only; omega, by dsimp only; omega, by dsimp only; omega⟩
 have hn4 : n ≤ 4000 := by omega
 have hk3 : k ≤ 300 := by omega
 clear hf hF hn h4 h3 hm0 hdr hxb
 go_enter Try.func3, Try.ntmps3
 go_upto_region 4 with (first | ((with_reducible refine Se.isL (o := ⟨some 33, _, _, _, _, _⟩) ?_); (refine Se.toL rfl (Se.ldw (o := ⟨some 33, _, _, _, _, _⟩) hs rfl rfl ((Reads.blk 0 rfl)) ((by rw [FL.out]; kernel_rfl)) (by kernel_rfl) ?_))) | ((first | with_reducible refine Se.ab hs ?_ | with_reducible refine Se.abc hs ?_); clear hs; (first | (generalize w.heap.size = g4; intro w hs))) | (go_at_call 10; refine Calls.mono (CN.out _ _ hs) ?_; clear hs; rintro e w ⟨gx, rfl, hs⟩))
 go_upto_region 5 with (first | ((with_reducible refine Se.isL (o := ⟨some 39, _, _, _, _, _⟩) ?_); (refine Se.toL rfl (Se.ldw (o := ⟨some 39, _, _, _, _, _⟩) hs rfl rfl ((Reads.blk 2 rfl)) ((by rw [FL.out]; kernel_rfl)) (by kernel_rfl) ?_))) | (go_at_call 10; refine Calls.mono (CN.out _ _ hs) ?_; clear hs; rintro e w ⟨gy, rfl, hs⟩))
 go_upto_region 9 with (first | (go_at_call 11; refine Calls.mono (add_m [_, _] hs HM0.out xb HN.out (HA.out.app [_, _, _]) (Nat.zero_le _) (by omega) HXB.out) ?_; clear hs; rintro e w ⟨rx, Bx, cx, rfl, hs⟩))
 go_upto_region 10 with (first | (go_at_call 12; refine Calls.mono (drain_m [_, _] hs HOK.out HDR.out) ?_; clear hs; rintro e w ⟨rw, AW, cW, RW, TW, rx', Bx', cx', rfl, HPW, hs⟩))
 simp only [List.cons_append, List.nil_append] at hs
 obtain ⟨LL, hLL⟩ : ∃ LL, LL = TW ++ (.blk g4 23 F :: L) := ⟨_, rfl⟩
 obtain ⟨mw, hmw⟩ : ∃ mw, mw = want.length := ⟨_, rfl⟩
 rw [← hLL, ← hmw] at hs
 rw [← hmw]
 have memL : ∀ a ∈ L, a ∈ LL := fun a h => by rw [hLL]; simp [h]
 have HA2 := Lib.hid (HA.out.mono memL)
 have HP2 := Lib.hid (HP.out.mono memL)
 have HPW2 := Lib.hid (HPW.out.mono (L' := LL) (fun a h => by rw [hLL]; simp [h]))
 have HLL : Hid (∀ w, St w0 X LL w → St w0 X L w) := Lib.hid (fun w h => by rw [hLL] at h; exact h.sub ((List.sublist_cons_self _ _).trans (List.sublist_append_right _ _)))
 have HMW := Lib.hid hmw
 have HMWL := Lib.hid (show mw ≤ 1000 by rw [hmw]; have := drn_len 1000 { f := f, mo := m, b := xb }; rw [HDR.out] at this; exact this)
 have HD0 := Lib.hid (DI.start (k := k) f m HM0.out HDR.out)
 replace hs : St w0 X (.own 14 rw AW mw cW RW.flatten :: pR gy { f := f, mo := m } none 0 :: pO none none 0 { f := f, mo := m } :: LL) w := hs.sub (List.Sublist.cons_cons _ (List.Sublist.cons_cons _ (List.Sublist.cons_cons _ (.cons _ (.cons _ (List.Sublist.refl _))))))
 clear hLL hmw memL HA HP HPW CN CK HDR HM0 HOK HXB
 go_wp2_with fail
 go_loopg [15, 16, 17, 18] (k + 1) (fun gh s15 s16 s17 s18 wr => ∃ (i d z : Nat) (s : Rc) (gs : List PDU) (ee m : Nat) (ro : Option Nat) (A3 : Option Addr) (cA : Nat) (R : List (List Value)) (T : List At) (r : Option Nat) (B : Option Addr) (c : Nat) (AR : Option Addr) (cR : Nat), gh = k + 1 - i ∧ i ≤ k + 1 ∧ s18 = .int .i64 (i : Int) ∧ s15 = .slice A3 m cA ∧ s16 = iv ee ∧ s17 = .slice AR z cR ∧ Hid (m = gs.length) ∧ Hid (d + z = n) ∧ z ≤ cR ∧ z ≤ 4000 ∧ m ≤ 1000 ∧ Hid (DI want last xb k i d s gs ee) ∧ Hid (PP T R gs) ∧ Hid (Reads LL AR ((xb.drop d).map v8)) ∧ St w0 X (.own 14 ro A3 m cA R.flatten :: .own 14 rw AW mw cW RW.flatten :: pR gy s B c :: pO r B c s :: (T ++ LL)) wr)
 case atStart => exact ⟨0, 0, n, { f := f, mo := m }, [], 9, 0, none, none, 0, [], [], none, none, 0, A, ca, rfl, Nat.zero_le _, rfl, rfl, rfl, rfl, Lib.hid rfl, Lib.hid (Nat.zero_add _), hnc, hn4, Nat.zero_le _, HD0, Lib.hid PP.nil, HA2, hs.nil_own 14 none⟩
 case round =>
  clear hs
  rename World => w
  obtain ⟨i, d, z, s, gs, ee, m, ro, A3, cA, R, T, r, B, c, AR, cR, rfl, hi, rfl, rfl, rfl, rfl, HG, HZN, hzc, hz4, hm1, HDI, HPP, HAR, hs⟩ := hrel
  clear HD0
  by_cases hlt : i ≤ k
  ·have hlt' : (i : Int) ≤ (k : Int) := by omega
   have hlt2 : decide (i ≤ k) = true := by simpa using hlt
   have hik0 : i < k ∨ i = k := by omega
   have hikd : decide (i < k) = true ∨ decide (i < k) = false := by simp only [decide_eq_true_eq, decide_eq_false_iff_not]; omega
   go_upto_if 85 with (fail)
   go_cut [19] (fun s19 wx => ∃ q : Nat, s19 = iv q ∧ Hid (q ≤ z ∧ (i = k → q = z)) ∧ St w0 X (.own 14 ro A3 m cA R.flatten :: .own 14 rw AW mw cW RW.flatten :: pR gy s B c :: pO r B c s :: (T ++ LL)) wx)
   case first =>
    by_cases hik : i < k
    ·have hik' : (i : Int) < (k : Int) := by omega
     have hil : i < yp.length := by have := HK.out; omega
     have HV := Pd.v8_at yp i hil
     obtain ⟨vn, hvn, hv255⟩ : ∃ vn : Nat, n8 (yp.getD i 0#8) = (vn : Int) ∧ vn ≤ 255 := ⟨_, rfl, by have := (yp.getD i 0#8).isLt; omega⟩
     rw [hvn] at HV
     obtain ⟨gp, op, rfl, _, _⟩ := (HP2.out w (fun a ha => hs.hold a (by simp [ha]))).cells (by
      intro h0
      rw [h0] at HV
      simp at HV)
     have CV := Lib.hid (HP2.out.cell i HV)
     have CV2 := Lib.hid (show Cell (.own 14 ro A3 m cA R.flatten :: .own 14 rw AW mw cW RW.flatten :: pR gy s B c :: pO r B c s :: (T ++ LL)) gp (op + i) (.int .u8 (vn : Int)) from fun w' hw => CV.out w' (fun a ha => hw a (by simp [ha])))
     have hik2 : ¬ i = k := by omega
     clear hvn HV hil CV
     rcases Nat.lt_trichotomy z vn with h1 | h1 | h1
     ·have f1 : (z : Int) < (vn : Int) := by omega
      have f2 : ¬ (vn : Int) < (z : Int) := by omega
      go_wp2_with (first | ((with_reducible refine Se.isL (o := ⟨some 90, _, _, _, _, _⟩) ?_); (refine Se.toL rfl (Se.ld (o := ⟨some 90, _, _, _, _, _⟩) hs rfl rfl (CV2.out) (by kernel_rfl) ?_))))
      go_meet
      exact ⟨z, rfl, Lib.hid ⟨Nat.le_refl _, fun _ => rfl⟩, hs⟩
     ·subst h1
      go_wp2_with (first | ((with_reducible refine Se.isL (o := ⟨some 90, _, _, _, _, _⟩) ?_); (refine Se.toL rfl (Se.ld (o := ⟨some 90, _, _, _, _, _⟩) hs rfl rfl (CV2.out) (by kernel_rfl) ?_))))
      go_meet
      exact ⟨z, by first | rfl | simp, Lib.hid ⟨Nat.le_refl _, fun _ => rfl⟩, hs⟩
     ·have f1 : ¬ (z : Int) < (vn : Int) := by omega
      have f2 : (vn : Int) < (z : Int) := by omega
      go_wp2_with (first | ((with_reducible refine Se.isL (o := ⟨some 90, _, _, _, _, _⟩) ?_); (refine Se.toL rfl (Se.ld (o := ⟨some 90, _, _, _, _, _⟩) hs rfl rfl (CV2.out) (by kernel_rfl) ?_))))
      go_meet
      exact ⟨vn, rfl, Lib.hid ⟨by omega, fun h => absurd h hik2⟩, hs⟩
    ·obtain rfl : i = k := by omega
     go_wp2_with fail
     go_meet
     exact ⟨z, rfl, Lib.hid ⟨Nat.le_refl _, fun _ => rfl⟩, hs⟩
   case rest =>
   clear hs
   rename World => w
   obtain ⟨q, rfl, HQ, hs⟩ := hcut
   have hqz : q ≤ z := HQ.out.1
   have k1 : (q : Int) ≤ (z : Int) := by omega
   have k2 : (q : Int) ≤ (cR : Int) := by omega
   have HRQ : Hid (Reads (.own 14 ro A3 m cA R.flatten :: .own 14 rw AW mw cW RW.flatten :: (T ++ LL)) AR (((xb.drop d).take q).map v8)) := Lib.hid (by
    have h := (HAR.out.take q).app (.own 14 ro A3 m cA R.flatten :: .own 14 rw AW mw cW RW.flatten :: T)
    rwa [← List.map_take] at h)
   have hql : q = ((xb.drop d).take q).length := by rw [List.length_take, List.length_drop]; have := HZN.out; have := HN.out; omega
   have HQL := Lib.hid hql
   have hbl : s.b.length ≤ 4000 := by have h := HDI.out.2.2.1; have h2 := HDI.out.1; have := HN.out; omega
   have HBL := Lib.hid hbl
   have HMO := Lib.hid HDI.out.2.1
   clear hql hbl
   by_cases h9 : ee = 9
   ·subst h9
    obtain ⟨G1, G2, G3⟩ := HDI.out.go (by have := HN.out; omega) (q := q) (by have := HZN.out; have := HN.out; omega) (fun h => by have h1 := HQ.out.2 h; have := HZN.out; have := HN.out; omega) hlt
    obtain ⟨s1, hs1⟩ : ∃ s1 : Rc, s1 = { s with b := s.b ++ (xb.drop d).take q } := ⟨_, rfl⟩
    rw [← hs1] at G1 G2 G3
    obtain ⟨⟨l, h, s2⟩, hdr⟩ : ∃ x, drn 1000 s1 = x := ⟨_, rfl⟩
    rw [hdr] at G3
    dsimp only at G3
    have HLL2 := Lib.hid (show l.length ≤ 1000 by have := drn_len 1000 s1; rw [hdr] at this; exact this)
    have HDR := Lib.hid hdr
    have G1 := Lib.hid G1
    have G2 := Lib.hid G2
    have G3 := Lib.hid G3
    have HNX : Hid (Reads LL (slB AR q cR) ((xb.drop (d + q)).map v8)) := Lib.hid (by
     have h := sl_from (n := 0) (c := cR) (k := q) HAR.out (by rw [List.length_drop]; have := HZN.out; have := HN.out; omega) (fun h => by rw [List.length_drop]; have := HZN.out; have := HN.out; omega)
     rw [List.drop_drop] at h
     unfold slB
     exact h)
    have hng : ((n : Int) = n) := rfl
    clear hs1 hdr hng HDI
    go_upto_region 23 with (first | (go_at_call 11; refine Calls.mono (add_m [_, _] hs HMO.out _ HQL.out HRQ.out (by have := HBL.out; omega) (by omega) G1.out) ?_; clear hs; rintro e w ⟨r', B', c', rfl, hs⟩))
    go_upto_region 26 with (first | (go_at_call 12; refine Calls.mono (drain_m [_, _] hs G2.out HDR.out) ?_; clear hs; rintro e w ⟨rl, A4, cl, Rl, Tl, r'', B'', c'', rfl, HPl, hs⟩))
    obtain ⟨ml, hml⟩ : ∃ ml, ml = l.length := ⟨_, rfl⟩
    rw [← hml] at hs
    rw [← hml]
    have HML := Lib.hid hml
    have hml1 : ml ≤ 1000 := by rw [hml]; exact HLL2.out
    clear hml
    refine Ch.region' 10 (fun _ => True) (fun | 2 => true | _ => false) (by kernel_rfl) (by decide +kernel) (trivial) ?_
    replace hs := hs.drew
    generalize w.drew = w at hs ⊢
    change Ch.CW _ _ _ _ _ [0, 1, 2, 3, 4, 5, 6, 7, 8, 9] _ _
    iterate 2 ((first | (refine Ch.pure (v := ?_) (by rfl) (by rfl) (by rfl) (fun wx hS => ?_) ?_; rotate_left; (focus (go_simp; (first | done | with_reducible rfl))))); (try simp only [Act.put, List.setIfInBounds_toArray, List.set_cons_zero, List.set_cons_succ]))
    refine Ch.noise (by rfl) (by rfl) (by rfl) (Se.ap 1 hs rfl rfl rfl rfl (Reads.own 0 rfl) Try.underlying31 pdu_i pdu_z (by decide) HPl.out.one (by rw [HPl.out.flen, HML.out]) (by omega) (by omega) ?_)
    clear hs
    rintro w r3 A5 c5 hs
    simp only [List.cons_append, List.nil_append, List.set_cons_zero, List.set_cons_succ] at hs
    refine ⟨trivial, ?_⟩
    (try simp only [Act.put, List.setIfInBounds_toArray, List.set_cons_zero, List.set_cons_succ])
    iterate 3 ((first | (refine Ch.pure (v := ?_) (by rfl) (by rfl) (by rfl) (fun wx hS => ?_) ?_; rotate_left; (focus (go_simp; (first | done | with_reducible rfl))))); (try simp only [Act.put, List.setIfInBounds_toArray, List.set_cons_zero, List.set_cons_succ]))
    refine Ch.pure (v := .slice (slB AR q cR) (z - q) (cR - q)) (by rfl) (by rfl) (by rfl) (fun wx hS => (by unfold slB; go_simp)) ?_
    (try simp only [Act.put, List.setIfInBounds_toArray, List.set_cons_zero, List.set_cons_succ])
    iterate 3 ((first | (refine Ch.pure (v := ?_) (by rfl) (by rfl) (by rfl) (fun wx hS => ?_) ?_; rotate_left; (focus (go_simp; (first | done | with_reducible rfl))))); (try simp only [Act.put, List.setIfInBounds_toArray, List.set_cons_zero, List.set_cons_succ]))
    refine Ch.done ?_
    try simp only [List.drop_succ_cons, List.drop_zero]
    go_wp2_with fail
    go_roundg (k + 1 - (i + 1))
    case measure => omega
    case rel =>
     have hgl := G3.out.len
     refine ⟨i + 1, d + q, z - q, s2, gs ++ l, h, m + ml, r3, A5, c5, R ++ Rl, Tl ++ T, r'', B'', c'', slB AR q cR, cR - q, rfl, by omega, by go_num, rfl, rfl, rfl, Lib.hid (by rw [List.length_append, ← HG.out, ← HML.out]), Lib.hid (by have := HZN.out; omega), by omega, by omega, ?_, G3, Lib.hid ?_, HNX, ?_⟩
     ·rw [List.length_append, ← HG.out, ← HML.out] at hgl
      have := HMWL.out
      have := HMW.out
      omega
     ·exact (HPP.out.mono (fun a h => List.mem_append.2 (.inr h))).append (HPl.out.mono (fun a h => List.mem_append.2 (.inl h)))
     ·rw [List.flatten_append, List.append_assoc]
      exact hs.drop
   ·obtain ⟨G1, G3⟩ := HDI.out.skip h9 ((xb.drop d).take q)
    have G1 := Lib.hid G1
    have G3 := Lib.hid G3
    have e9 : ((ee : Int) != 9) = true := by simp; omega
    clear h9 HDI
    go_wp2_with (first | (go_at_call 11; refine Calls.mono (add_m [_, _] hs HMO.out _ HQL.out HRQ.out (by have := HBL.out; omega) (by omega) G1.out) ?_; clear hs; rintro e w ⟨r', B', c', rfl, hs⟩))
    go_roundg (k + 1 - (i + 1))
    case measure => omega
    case rel => exact ⟨i + 1, d, z, s, gs, ee, m, ro, A3, cA, R, T, r', B', c', AR, cR, rfl, by omega, by go_num, rfl, rfl, rfl, HG, HZN, hzc, hz4, hm1, G3, HPP, HAR, hs⟩
  ·have hlt' : ¬ (i : Int) ≤ (k : Int) := by omega
   have hlt2 : decide (i ≤ k) = false := by simpa using hlt
   obtain ⟨h1, h2⟩ := HDI.out.fin (by omega)
   subst h1 h2
   have HG2 := Lib.hid (show m = mw by rw [HG.out, HMW.out])
   have CSM : Hid (∀ (w : World), St w0 X (.own 14 ro A3 m cA R.flatten :: .own 14 rw AW mw cW RW.flatten :: pR gy s B c :: pO r B c s :: (T ++ LL)) w → Calls Try.prog 13 #[.slice A3 m cA, .slice AW mw cW] w fun e w' => e = .returned (.bool true) ∧ St w0 X (.own 14 ro A3 m cA R.flatten :: .own 14 rw AW mw cW RW.flatten :: pR gy s B c :: pO r B c s :: (T ++ LL)) w') := Lib.hid (fun w hs => by
    rw [← HG2.out] at hs ⊢
    exact same_st hs HG.out (Reads.own 0 rfl) (HPP.out.mono (fun a h => by simp [h])) (Reads.own 1 rfl) (HPW2.out.mono (fun a h => by simp [h])) (by omega))
   clear HDI HPP HAR HG HMW
   go_wp2_with (first | (go_at_call 13; refine Calls.mono (CSM.out _ hs) ?_; clear hs; rintro e w ⟨rfl, hs⟩) | (go_at_call 9; refine Calls.mono (known_st hs) ?_; clear hs; rintro e w ⟨rfl, hs⟩))
   go_ret
   exact ⟨rfl, HLL.out _ (hs.drop.drop.drop.drop.sub (List.sublist_append_right _ _))⟩
theorem divides_any (f : Fm) (mo : Int) (W : World) {A : Option Addr} {xb : List (BitVec 8)} {n ca : Nat} (hn : n = xb.length) (hA : Rd W A (xb.map v8)) (hnc : n ≤ ca) {AP : Option Addr} {yp : List (BitVec 8)} {k cp : Nat} (hkk : k = yp.length) (hP : Rd W AP (yp.map v8)) :
  Calls Try.prog 3 #[fv f, .int .i64 mo, .slice A n ca, .slice AP k cp] W fun e w' => e = .returned (.bool true) ∧ Below W.heap.size W w' := by
 have h0 : St W [] [.rd A (xb.map v8), .rd AP (yp.map v8)] W := St.start W (by
  intro a ha
  simp only [List.mem_cons, List.not_mem_nil, or_false] at ha
  rcases ha with rfl | rfl
  ·exact hA
  ·exact hP) rfl
 exact (divides_st h0 f mo hn (Reads.rd 0 rfl) hnc hkk (Reads.rd 1 rfl)).mono fun e w' h => ⟨h.1, h.2.below⟩
end Sr
end Go.Proofs.Ytdngfcmakjlamaa


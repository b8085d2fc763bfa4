/- Layer 36: drain and same of the laws. No condition but Go's own limits. -/
import Derived.Test.YtdngfcmakjlamaaStrCalls
import Derived.Test.YtdngfcmakjlamaaStrDiv
set_option linter.unusedSimpArgs false
set_option linter.unusedVariables false
namespace Go.Proofs.Ytdngfcmakjlamaa
open Go Go.RowKit
namespace Sr
open Pd (Fm PDU meas dec framed pc iv fl fv encE)
open Se (St At Reads Cell)
open Li (v8 v8_one Rd Blk Fr)
open Bv (n8 n16 n32 n64)
variable {w0 w : World} {X : List Nat} {L : List At} {s s' : Rc} {g c c2 : Nat} {B B2 : Option Addr} {r : Option Nat}
attribute [local irreducible] Calls
/-- What bounds a receiver's numbers. -/
def okR (s : Rc) (k : Nat) : Prop := s.mo ≠ 0 ∧ s.e = 0 ∧ s.b.length < 24 * k ∧ s.b.length ≤ 4194304 ∧ s.nb + s.b.length ≤ 70368744177664 ∧ s.np + k ≤ 70368744177664
theorem okR.next {k : Nat} (h : okR s (k + 1)) (he : (nextE s).2.2 = 0) : okR (nextE s).1 k := by
 obtain ⟨h1, h2, h3, h4, h5, h6⟩ := h
 obtain ⟨p, n, e, ht, (⟨_, hn⟩ | ⟨h9, he', hn⟩ | ⟨he', hp, hl, hn⟩)⟩ := next_cases s h2
 ·rw [hn] at he; cases he
 ·rw [hn] at he; exact absurd he he'
 ·rw [hn]
  refine ⟨h1, h2, ?_, ?_, ?_, ?_⟩
  all_goals dsimp only
  all_goals (try rw [List.length_drop])
  all_goals omega
set_option maxRecDepth 100000 in
set_option maxRecDepth 100000 in
set_option maxHeartbeats 4000000 in
theorem drain_st (hs : St w0 X (pR g s B c :: pO r B c s :: L) w) (hk : okR s 1000) {ps : List PDU} {e : Nat} (hr : drn 1000 s = (ps, e, s')) :
  Calls Try.prog 12 #[.pointer (some ⟨g, 0, none⟩)] w fun e' w' => ∃ ro A cA R T r' B' c', e' = .returned (.tuple #[.slice A ps.length cA, iv e]) ∧ Hid (PP T R ps) ∧ St w0 X (.own 14 ro A ps.length cA R.flatten :: pR g s' B' c' :: pO r' B' c' s' :: (T ++ L)) w' := by
 have HZ := Lib.hid zP0
 have HR := Lib.hid hr
 have HK := Lib.hid hk
 obtain ⟨N, hN⟩ : ∃ N, N = 1000 := ⟨_, rfl⟩
 rw [← hN] at HR HK
 have HNN := Lib.hid hN
 clear hr hk hN
 go_enter Try.func12, Try.ntmps12
 go_wp2_with fail
 go_loopg [4, 5] N (fun gh s4 s5 wr => ∃ (i : Nat) (s1 : Rc) (ps1 : List PDU) (ro : Option Nat) (A : Option Addr) (cA : Nat) (R : List (List Value)) (T : List At) (r : Option Nat) (B : Option Addr) (c : Nat), gh = N - i ∧ i ≤ N ∧ s5 = .int .i64 (i : Int) ∧ s4 = .slice A i cA ∧ Hid (i = ps1.length) ∧ Hid (okR s1 (N - i)) ∧ Hid (ps1 ++ (drn (N - i) s1).1 = ps ∧ (drn (N - i) s1).2 = (e, s')) ∧ Hid (PP T R ps1) ∧ St w0 X (.own 14 ro A i cA R.flatten :: pR g s1 B c :: pO r B c s1 :: (T ++ L)) wr)
 case atStart =>
  refine ⟨0, s, [], none, none, 0, [], [], r, B, c, rfl, Nat.zero_le _, rfl, rfl, Lib.hid rfl, Lib.hid HK.out, Lib.hid ?_, Lib.hid PP.nil, hs.nil_own 14 none⟩
  rw [Nat.sub_zero, HR.out]
  exact ⟨rfl, rfl⟩
 case round =>
  clear hs
  rename World => w
  obtain ⟨i, s1, ps1, ro, A, cA, R, T, r, B, c, rfl, hi, rfl, rfl, HL, HO, HD, HP, hs⟩ := hrel
  by_cases hlt : i < N
  ·have hlt' : (i : Int) < 1000 := by have := HNN.out; omega
   have hi2 : i < 1000 := by have := HNN.out; omega
   obtain ⟨j, hj⟩ : ∃ j, N - i = j + 1 := ⟨N - i - 1, by omega⟩
   have HO2 := HO.out
   have HD2 := HD.out
   rw [hj] at HO2 HD2
   obtain ⟨⟨s2, p, ee⟩, hn⟩ : ∃ x, nextE s1 = x := ⟨_, rfl⟩
   simp only [drn, hn] at HD2
   have CN : Hid (∀ (M : List At) (w : World), St w0 X (M ++ pR g s1 B c :: pO r B c s1 :: (T ++ L)) w → Calls Try.prog 19 #[.pointer (some ⟨g, 0, none⟩)] w fun e' w' => ∃ r1 EA ec r2 DA dc PC r' B' c', e' = .returned (.tuple #[.agg PC.toArray, iv ee]) ∧ Hid (PC = pc p.h EA p.en.length ec DA p.da.length dc) ∧ St w0 X (.own 1 r1 EA p.en.length ec (p.en.map v8) :: .own 1 r2 DA p.da.length dc (p.da.map v8) :: (M ++ pR g s2 B' c' :: pO r' B' c' s2 :: (T ++ L))) w') := Lib.hid (fun M w hs => next_m M hs HO2.1 HO2.2.2.2.1 HO2.2.2.2.2.1 (by have := HO2.2.2.2.2.2; omega) hn)
   by_cases h0 : ee = 0
   ·subst h0
    have HO3 : Hid (okR s2 (N - (i + 1))) := Lib.hid (by
     have := HO2.next (by rw [hn])
     rw [hn] at this
     rw [show N - (i + 1) = j by omega]
     exact this)
    have HD3 : Hid ((ps1 ++ [p]) ++ (drn (N - (i + 1)) s2).1 = ps ∧ (drn (N - (i + 1)) s2).2 = (e, s')) := Lib.hid (by
     rw [show N - (i + 1) = j by omega]
     rw [if_neg (by simp)] at HD2
     refine ⟨?_, HD2.2⟩
     rw [← HD2.1]
     simp)
    clear HD2 HO2 HO HD hn hj
    go_wp2_with (first | ((with_reducible refine Se.isL (o := ⟨some 6, _, _, _, _, _⟩) ?_); (refine Se.toL rfl (Se.al (o := ⟨some 6, _, _, _, _, _⟩) hs rfl (HZ.out) ?_); clear hs; rintro w g6 - hs)) | ((with_reducible refine Se.isL (o := ⟨none, _, _, _, _, _⟩) ?_); (refine Se.toL rfl (Se.sow 0 hs rfl rfl rfl rfl ((by exact (pcl _ HPC.out).2)) ((by rw [(pcl _ HPC.out).1]; kernel_rfl)) ((by rw [(pcl _ HPC.out).1]; rfl)) ?_); clear hs; intro w hs; try simp only [List.cons_append, List.nil_append, List.set_cons_zero] at hs)) | ((with_reducible refine Se.isL (o := ⟨some 22, _, _, _, _, _⟩) ?_); (refine Se.toL rfl (Se.ldw (o := ⟨some 22, _, _, _, _, _⟩) hs rfl rfl ((Reads.blk 0 rfl)) ((by rw [(pcl _ HPC.out).1]; kernel_rfl)) (by kernel_rfl) ?_))) | ((with_reducible refine Se.isL (o := ⟨some 23, _, _, _, _, _⟩) ?_); (refine Se.toL rfl (Se.bs1 (o := ⟨some 23, _, _, _, _, _⟩) hs rfl Try.underlying31 pdu_i (by decide) (by decide) rfl ((pcl _ HPC.out).1) ?_); clear hs; rintro w g23 - hs)) | ((with_reducible refine Se.isL (o := ⟨some 24, _, _, _, _, _⟩) ?_); (refine Se.toL rfl (Se.ap (o := ⟨some 24, _, _, _, _, _⟩) 4 hs rfl rfl rfl rfl ((Reads.blk 0 rfl)) Try.underlying31 pdu_i rfl (by decide) ((pcl _ HPC.out).2) ((by rw [(pcl _ HPC.out).1])) ((by omega)) ((by omega)) ?_); clear hs; rintro w r3 A3 c3 hs; try simp only [List.cons_append, List.nil_append, List.set_cons_zero, List.set_cons_succ] at hs)) | (go_at_call 19; refine Calls.mono (CN.out [_] _ hs) ?_; clear hs; rintro e w ⟨r1, EA, ec, r2, DA, dc, PC, r', B', c', rfl, HPC, hs⟩))
    go_roundg (N - (i + 1))
    case measure => omega
    case rel =>
     have h1 := hs.drop.drop.own_rd
     have h2 := h1.u11.own_rd
     refine ⟨i + 1, s2, ps1 ++ [p], r3, A3, c3, R ++ [PC], .rd DA (p.da.map v8) :: .rd EA (p.en.map v8) :: T, r', B', c', rfl, by omega, by go_num, rfl, Lib.hid (by rw [List.length_append, ← HL.out]; rfl), HO3, HD3, Lib.hid ?_, ?_⟩
     ·rw [HPC.out]
      exact (HP.out.mono (fun a h => List.mem_cons_of_mem _ (List.mem_cons_of_mem _ h))).snoc (Reads.rd 1 rfl) (Reads.rd 0 rfl)
     ·rw [List.flatten_append, List.flatten_cons, List.flatten_nil, List.append_nil]
      replace h2 := h2
      exact h2.perm (List.perm_append_comm_assoc [_, _] [_, _, _] (T ++ L))
   ·have e1 := (int_ne h0).1
    have HD3 := Lib.hid (show ps1 = ps ∧ ee = e ∧ s2 = s' by
     rw [if_pos h0] at HD2
     simp only [List.append_nil, Prod.mk.injEq] at HD2
     exact ⟨HD2.1, HD2.2.1, HD2.2.2⟩)
    clear h0 HD2 HO2 HO HD hn hj
    go_wp2_with (first | ((with_reducible refine Se.isL (o := ⟨some 6, _, _, _, _, _⟩) ?_); (refine Se.toL rfl (Se.al (o := ⟨some 6, _, _, _, _, _⟩) hs rfl (HZ.out) ?_); clear hs; rintro w g6 - hs)) | ((with_reducible refine Se.isL (o := ⟨none, _, _, _, _, _⟩) ?_); (refine Se.toL rfl (Se.sow 0 hs rfl rfl rfl rfl ((by exact (pcl _ HPC.out).2)) ((by rw [(pcl _ HPC.out).1]; kernel_rfl)) ((by rw [(pcl _ HPC.out).1]; rfl)) ?_); clear hs; intro w hs; try simp only [List.cons_append, List.nil_append, List.set_cons_zero] at hs)) | (go_at_call 19; refine Calls.mono (CN.out [_] _ hs) ?_; clear hs; rintro e w ⟨r1, EA, ec, r2, DA, dc, PC, r', B', c', rfl, HPC, hs⟩))
    go_ret2
    obtain ⟨h1, h2, h3⟩ := HD3.out
    subst h1 h2 h3
    have h4 := HL.out
    subst h4
    exact ⟨ro, A, cA, R, T, r', B', c', rfl, HP, hs.drop.drop.drop⟩
  ·have := HO.out.2.2.1
   omega
set_option maxRecDepth 100000 in
set_option maxRecDepth 100000 in
set_option maxHeartbeats 4000000 in
theorem same_st (hs : St w0 X L w) {A B : Option Addr} {R Q : List (List Value)} {ps : List PDU} {k ca cb : Nat} (hk : k = ps.length) (hA : Reads L A R.flatten) (hP : PP L R ps) (hB : Reads L B Q.flatten) (hQ : PP L Q ps) (hkl : k ≤ 4194304) :
  Calls Try.prog 13 #[.slice A k ca, .slice B k cb] w fun e w' => e = .returned (.bool true) ∧ St w0 X L w' := by
 have HK := Lib.hid hk
 have C1 : Hid (∀ (i : Nat) (hi : i < ps.length) (w : World), St w0 X L w → ∃ PC QC : List Value, Hid (PC.length = 14 ∧ QC.length = 14) ∧ (∃ g o, A = some ⟨g, o, none⟩ ∧ Reads L (some ⟨g, o + i * 14, none⟩) PC) ∧ (∃ g o, B = some ⟨g, o, none⟩ ∧ Reads L (some ⟨g, o + i * 14, none⟩) QC) ∧ ∀ (w : World), St w0 X L w → Calls Try.prog 26 #[.agg PC.toArray, .agg QC.toArray] w fun e' w' => e' = .returned (.bool true) ∧ St w0 X L w') := Lib.hid (fun i hi w hs => by
  obtain ⟨PC, EA, ec, DA, dc, h1, h2, h3, h4, h5⟩ := hP.row hi
  obtain ⟨QC, EB, ed, DB, dd, q1, q2, q3, q4, q5⟩ := hQ.row hi
  obtain ⟨g, o, hg, _, _⟩ := (hA w hs.hold).cells (hP.ne hi)
  obtain ⟨g', o', hg', _, _⟩ := (hB w hs.hold).cells (hQ.ne hi)
  refine ⟨PC, QC, Lib.hid (by rw [h2, q2]; exact ⟨rfl, rfl⟩), ⟨g, o, hg, h5 g o (hg ▸ hA)⟩, ⟨g', o', hg', q5 g' o' (hg' ▸ hB)⟩, fun w hs => ?_⟩
  rw [h2, q2]
  exact Pd.rSame_st hs ps[i].h ps[i].h rfl rfl rfl rfl h3 q3 h4 q4 (Pd.same_self ps[i]))
 clear hk hA hP hB hQ
 go_enter Try.func13, Try.ntmps13
 go_wp2_with fail
 go_loopg [5] k (fun gh s5 wr => ∃ (i : Nat), gh = k - i ∧ i ≤ k ∧ s5 = .int .i64 (i : Int) ∧ St w0 X L wr)
 case atStart => exact ⟨0, rfl, Nat.zero_le _, rfl, hs⟩
 case round =>
  clear hs
  rename World => w
  obtain ⟨i, rfl, hi, rfl, hs⟩ := hrel
  by_cases hlt : i < k
  ·have hlt' : (i : Int) < (k : Int) := by omega
   have hil : i < ps.length := by have := HK.out; omega
   obtain ⟨PC, QC, HPC, ⟨g, o, rfl, RP⟩, ⟨g', o', rfl, RQ⟩, CJ⟩ := C1.out i hil w hs
   have RP := Lib.hid RP
   have RQ := Lib.hid RQ
   have CJ := Lib.hid CJ
   clear C1 hil
   go_upto_region 6 with (fail)
   refine Ch.region' 10 (fun wx => Rd wx (some ⟨g, o + i * 14, none⟩) PC ∧ Rd wx (some ⟨g', o' + i * 14, none⟩) QC) (fun | 8 => true | _ => false) (by kernel_rfl) (by decide +kernel) (⟨RP.out _ hs.drew.hold, RQ.out _ hs.drew.hold⟩) ?_
   replace hs := hs.drew
   generalize w.drew = w at hs ⊢
   change Ch.CW _ _ _ _ _ [0, 1, 2, 3, 4, 5, 6, 7, 8, 9] _ _
   iterate 8 ((first | (refine Ch.pure (v := ?_) (by rfl) (by rfl) (by rfl) (fun wx hS => ?_) ?_; rotate_left; (focus (go_simp; (first | done | with_reducible rfl)))) | refine Ch.pure (v := _) (by rfl) (by rfl) (by rfl) (fun wx hS => Se.xla rfl rfl hS.1 (by rw [HPC.out.1] <;> kernel_rfl) (by kernel_rfl)) ?_ | refine Ch.pure (v := _) (by rfl) (by rfl) (by rfl) (fun wx hS => Se.xla rfl rfl hS.2 (by rw [HPC.out.2] <;> kernel_rfl) (by kernel_rfl)) ?_); (try simp only [Act.put, List.setIfInBounds_toArray, List.set_cons_zero, List.set_cons_succ]))
   refine Ch.noise (by rfl) (by rfl) (by rfl) ?_
   refine Se.gcall (f := 26) (args := #[.agg PC.toArray, .agg QC.toArray]) ?_ ?_
   ·go_simp
   refine Calls.mono (CJ.out _ hs) ?_
   clear hs
   rintro e w ⟨rfl, hs⟩
   refine ⟨_, rfl, ⟨RP.out _ hs.hold, RQ.out _ hs.hold⟩, ?_⟩
   (try simp only [Act.put, List.setIfInBounds_toArray, List.set_cons_zero, List.set_cons_succ])
   iterate 1 ((first | (refine Ch.pure (v := ?_) (by rfl) (by rfl) (by rfl) (fun wx hS => ?_) ?_; rotate_left; (focus (go_simp; (first | done | with_reducible rfl))))); (try simp only [Act.put, List.setIfInBounds_toArray, List.set_cons_zero, List.set_cons_succ]))
   refine Ch.done ?_
   try simp only [List.drop_succ_cons, List.drop_zero]
   go_wp2_with fail
   go_roundg (k - (i + 1))
   case measure => omega
   case rel => exact ⟨i + 1, rfl, by omega, by go_num, hs⟩
  ·obtain rfl : i = k := by omega
   go_wp2_with fail
   go_ret
   exact ⟨rfl, hs⟩
end Sr
end Go.Proofs.Ytdngfcmakjlamaa


/- Layer 36: a step whatever it is; few; the law StreamPlays, the walk. No condition but Go's own limits. -/
import Derived.Test.YtdngfcmakjlamaaStrDo
import Derived.Test.YtdngfcmakjlamaaStrKnown
import Derived.Test.YtdngfcmakjlamaaStrOpen
set_option linter.unusedSimpArgs false
set_option linter.unusedVariables false
namespace Go.Proofs.Ytdngfcmakjlamaa
open Go Go.RowKit
namespace Sr
open Pd (Fm PDU meas dec framed pc iv fl fv encE)
open Se (St At Reads Cell)
open Li (v8 v8_one Rd Blk Fr)
open Bv (n8 n16 n32 n64)
variable {w0 w : World} {X : List Nat} {L : List At} {s s' : Rc} {g c c2 : Nat} {B B2 : Option Addr} {r : Option Nat}
attribute [local irreducible] Calls
/-- The numbers of a receiver after k steps with t bytes. -/
def okD (s : Rc) (t k : Nat) : Prop := s.mo ≠ 0 ∧ s.nb + s.b.length ≤ t ∧ s.np ≤ k
theorem okD.add {t k n : Nat} (h : okD s t k) (x : List (BitVec 8)) (hn : n = x.length) : okD (addE s x).1 (t + n) (k + 1) := by
 obtain ⟨h1, h2, h3⟩ := h
 unfold addE
 split
 ·exact ⟨h1, by dsimp only; omega, by dsimp only; omega⟩
 ·split
  ·exact ⟨h1, by dsimp only; omega, by dsimp only; omega⟩
  ·refine ⟨h1, ?_, by dsimp only; omega⟩
   dsimp only
   rw [List.length_append]
   omega
theorem okD.next {t k : Nat} (n : Nat) (h : okD s t k) : okD (nextE s).1 (t + n) (k + 1) := by
 obtain ⟨h1, h2, h3⟩ := h
 unfold nextE
 split
 ·exact ⟨h1, by dsimp only; omega, by dsimp only; omega⟩
 ·split
  ·exact ⟨h1, by dsimp only; omega, by dsimp only; omega⟩
  ·split
   ·exact ⟨h1, by dsimp only [List.length_nil]; omega, by dsimp only; omega⟩
   ·refine ⟨h1, ?_, by dsimp only; omega⟩
    have := take_len (s := s) (p := (takeE s).1) (n := (takeE s).2.1) (e := (takeE s).2.2) rfl
    dsimp only
    rw [List.length_drop]
    omega
theorem okD.ref {t k : Nat} (n : Nat) (f : Fm) (h : okD s t k) : okD (refE s f).1 (t + n) (k + 1) := by
 obtain ⟨h1, h2, h3⟩ := h
 unfold refE
 split
 ·exact ⟨h1, by dsimp only; omega, by dsimp only; omega⟩
 ·split <;> exact ⟨h1, by dsimp only; omega, by dsimp only; omega⟩
theorem okD.id {t k : Nat} (n : Nat) (h : okD s t k) : okD s (t + n) (k + 1) := ⟨h.1, by have := h.2.1; omega, by have := h.2.2; omega⟩
theorem parse_da (k fl : Nat) (a d : List (BitVec 8)) : (Pd.parse k fl a d).1.da = d := by
 unfold Pd.parse
 dsimp only
 split <;> rfl
theorem dec_da (b : List (BitVec 8)) (f : Fm) : (dec b f).1.da.length ≤ b.length := by
 unfold dec
 dsimp only
 repeat' split
 all_goals first | exact Nat.zero_le _ | (dsimp only; rw [parse_da]; exact Nat.zero_le _) | (dsimp only; rw [parse_da]; unfold Pd.sub; rw [List.length_drop, List.length_take]; omega)
theorem take_da {p : PDU} {n e : Nat} (h : takeE s = (p, n, e)) : p.da.length ≤ s.b.length := by
 unfold takeE at h
 repeat' split at h
 all_goals first | (cases h; exact Nat.zero_le _) | skip
 cases h
 refine Nat.le_trans (dec_da _ _) ?_
 rw [List.length_take]
 omega
theorem next_da {p : PDU} {e : Nat} (h : nextE s = (s', p, e)) : p.da.length ≤ s.b.length := by
 unfold nextE at h
 split at h
 ·cases h; exact Nat.zero_le _
 split at h
 ·cases h; exact Nat.zero_le _
 split at h
 ·cases h; exact Nat.zero_le _
 ·cases h
  exact take_da rfl
theorem mid3 (M : List At) {a b d : At} : (M ++ (a :: b :: d :: L)).Perm (a :: b :: d :: (M ++ L)) := List.perm_middle.trans (List.Perm.cons _ (mid2 M))
/-- A step, whatever it is. -/
theorem do_m (M : List At) (hs : St w0 X (M ++ pR g s B c :: pO r B c s :: pM B2 s :: L) w) {RL : List Value} (hRL : RL = rcl s B2 c2) (hc : s.b.length ≤ c2) (p : Stp) {XA : Option Addr} {xc : Nat} {PC : List Value} (hP : PC = stl p.k XA p.x.length xc p.f) (hx : Reads (M ++ L) XA (p.x.map v8)) {t k : Nat} (ho : okD s t k) (ht : t + p.x.length ≤ 4194304) (hk : k ≤ 100000) :
  Calls Try.prog 23 #[.pointer (some ⟨g, 0, none⟩), .agg RL.toArray, .agg PC.toArray] w fun e' w' => ∃ s' RL' r' B' c' B2' c2', e' = .returned (.tuple #[.agg RL'.toArray, .bool true]) ∧ Hid (okD s' (t + p.x.length) (k + 1)) ∧ Hid (RL' = rcl s' B2' c2') ∧ Hid (s'.b.length ≤ c2') ∧ St w0 X (M ++ pR g s' B' c' :: pO r' B' c' s' :: pM B2' s' :: L) w' := by
 have h1 := hs.perm (mid3 M)
 have hb : s.b.length ≤ 4194304 := by have := ho.2.1; omega
 have hn : s.nb + s.b.length ≤ 70368744177664 := by have := ho.2.1; omega
 have hp : s.np ≤ 70368744177664 := by have := ho.2.2; omega
 have back : ∀ {s' : Rc} {e' : Ending} {w' : World}, okD s' (t + p.x.length) (k + 1) → (∃ RL' r' B' c' B2' c2', e' = .returned (.tuple #[.agg RL'.toArray, .bool true]) ∧ Hid (RL' = rcl s' B2' c2') ∧ Hid (s'.b.length ≤ c2') ∧ St w0 X (pR g s' B' c' :: pO r' B' c' s' :: pM B2' s' :: (M ++ L)) w') → ∃ s' RL' r' B' c' B2' c2', e' = .returned (.tuple #[.agg RL'.toArray, .bool true]) ∧ Hid (okD s' (t + p.x.length) (k + 1)) ∧ Hid (RL' = rcl s' B2' c2') ∧ Hid (s'.b.length ≤ c2') ∧ St w0 X (M ++ pR g s' B' c' :: pO r' B' c' s' :: pM B2' s' :: L) w' := by
  rintro s' e' w' h ⟨RL', r', B', c', B2', c2', q1, q2, q3, q4⟩
  exact ⟨s', RL', r', B', c', B2', c2', q1, Lib.hid h, q2, q3, q4.perm (mid3 M).symm⟩
 subst hRL hP
 by_cases k1 : p.k = 1
 ·rw [k1]
  exact (do1_st h1 ho.1 hc hb p.x rfl hx (by omega) p.f (e := (addE s p.x).2) rfl).mono fun e' w' h => back (ho.add p.x rfl) h
 by_cases k2 : p.k = 2
 ·rw [k2]
  exact (do2_st h1 ho.1 hc hb hn hp XA p.x.length xc p.f (p := (nextE s).2.1) (e := (nextE s).2.2) rfl (by have := next_da (s := s) (s' := (nextE s).1) (p := (nextE s).2.1) (e := (nextE s).2.2) rfl; omega)).mono fun e' w' h => back (ho.next _) h
 by_cases k3 : p.k = 3
 ·rw [k3]
  exact (do3_st h1 ho.1 hc XA p.x.length xc p.f (e := (refE s p.f).2) rfl).mono fun e' w' h => back (ho.ref _ p.f) h
 ·exact (do0_st h1 hc k1 k2 k3 XA p.x.length xc p.f rfl).mono fun e' w' h => back (okD.id _ ho) h
def tot (xs : List Stp) : Nat := (xs.map (·.x.length)).sum
theorem tot_snoc (xs : List Stp) (i : Nat) (hi : i < xs.length) : tot (xs.take (i + 1)) = tot (xs.take i) + xs[i].x.length := by
 unfold tot
 rw [List.take_add_one, List.getElem?_eq_getElem hi]
 simp only [Option.toList_some, List.map_append, List.map_cons, List.map_nil, List.sum_append, List.sum_cons, List.sum_nil, Nat.add_zero]
theorem tot_le (xs : List Stp) (i : Nat) : tot (xs.take i) ≤ tot xs := by
 unfold tot
 have h : xs = xs.take i ++ xs.drop i := (List.take_append_drop i xs).symm
 generalize ha : xs.take i = a at *
 generalize xs.drop i = b at h
 rw [h, List.map_append, List.sum_append]
 omega
def fewB (xs : List Stp) : Bool := decide (xs.length ≤ 60 ∧ tot xs ≤ 6000)
def FewR (e : Ending) (xs : List Stp) : Prop := e = .returned (.bool (fewB xs))
theorem FewR.no {xs : List Stp} (h : ¬ (xs.length ≤ 60 ∧ tot xs ≤ 6000)) : FewR (.returned (.bool false)) xs := by
 unfold FewR fewB
 rw [decide_eq_false h]
theorem FewR.yes {xs : List Stp} (h1 : xs.length ≤ 60) (h2 : tot xs ≤ 6000) : FewR (.returned (.bool true)) xs := by
 unfold FewR fewB
 rw [decide_eq_true ⟨h1, h2⟩]
theorem FewR.out {e : Ending} {xs : List Stp} (h : FewR e xs) : ∃ b, e = .returned (.bool b) ∧ Hid (b = true → xs.length ≤ 60 ∧ tot xs ≤ 6000) := ⟨_, h, Lib.hid (fun h => by unfold fewB at h; simpa using h)⟩
theorem fewB_out {xs : List Stp} (h : fewB xs = true) : xs.length ≤ 60 ∧ tot xs ≤ 6000 := by unfold fewB at h; simpa using h
set_option maxRecDepth 100000 in
set_option maxRecDepth 100000 in
set_option maxHeartbeats 4000000 in
theorem few_st (hs : St w0 X L w) {A : Option Addr} {R : List (List Value)} {xs : List Stp} {n ca : Nat} (hn : n = xs.length) (hA : Reads L A R.flatten) (hS : SS L R xs) (hl : ∀ p ∈ xs, p.x.length ≤ 140737488351232) (hnl : n ≤ 140737488351232) :
  Calls Try.prog 21 #[.slice A n ca] w fun e' w' => FewR e' xs ∧ St w0 X L w' := by
 have HN := Lib.hid hn
 have C1 : Hid (∀ (i : Nat) (hi : i < xs.length) (w : World), St w0 X L w → ∃ g o XA xc q, A = some ⟨g, o, none⟩ ∧ Cell L g (o + i * 5 + 1) (.slice XA q xc) ∧ Hid (q = xs[i].x.length) ∧ q ≤ 140737488351232) := Lib.hid (fun i hi w hs => by
  obtain ⟨PC, XA, xc, h1, h2, h3⟩ := hS.row hi
  obtain ⟨g, o, hg, _, _⟩ := (hA w hs.hold).cells (hS.ne hi)
  refine ⟨g, o, XA, xc, _, hg, (h3 g o (hg ▸ hA)).cell 1 (by rw [h1]; rfl), Lib.hid rfl, hl _ (List.getElem_mem hi)⟩)
 clear hn hA hS hl
 go_enter Try.func21, Try.ntmps21
 go_wp2_with fail
 go_loopg [3, 4] n (fun gh s3 s4 wr => ∃ (i m : Nat), gh = n - i ∧ i ≤ n ∧ i ≤ 61 ∧ s4 = .int .i64 (i : Int) ∧ s3 = .int .i64 (m : Int) ∧ Hid (m = tot (xs.take i)) ∧ m ≤ i * 140737488351232 ∧ St w0 X L wr)
 case atStart => exact ⟨0, 0, rfl, Nat.zero_le _, by omega, rfl, rfl, Lib.hid rfl, Nat.zero_le _, hs⟩
 case round =>
  clear hs
  rename World => w
  obtain ⟨i, m, rfl, hi, h61, rfl, rfl, HM, hm, hs⟩ := hrel
  by_cases hlt : i < n
  ·have hlt' : (i : Int) < (n : Int) := by omega
   have d1 : decide (i < n) = true := by simpa using hlt
   by_cases h60 : i ≤ 60
   ·have h60' : (i : Int) ≤ 60 := by omega
    have d2 : decide ((i : Int) ≤ 60) = true := by simpa using h60'
    have hil : i < xs.length := by have := HN.out; omega
    obtain ⟨g, o, XA, xc, q, rfl, CC, HQ, hq⟩ := C1.out i hil w hs
    have CC := Lib.hid CC
    have HT := Lib.hid (tot_snoc xs i hil)
    obtain ⟨px, hpx⟩ : ∃ px, xs[i] = px := ⟨_, rfl⟩
    rw [hpx] at HQ HT
    clear hpx
    have hsum : m + q ≤ 4611686018427387904 := by omega
    clear hil
    go_wp2_with (first | ((with_reducible refine Se.isL (o := ⟨some 20, _, _, _, _, _⟩) ?_); (refine Se.toL rfl (Se.ld (o := ⟨some 20, _, _, _, _, _⟩) hs rfl rfl (CC.out) (by kernel_rfl) ?_))))
    go_roundg (n - (i + 1))
    case measure => omega
    case rel => exact ⟨i + 1, m + q, rfl, by omega, by omega, by go_num, by go_num, Lib.hid (by rw [HT.out, HM.out, HQ.out]), by omega, hs⟩
   ·have h60' : ¬ (i : Int) ≤ 60 := by omega
    have d2 : decide ((i : Int) ≤ 60) = false := by simpa using h60'
    have d3 : decide ((n : Int) ≤ 60) = false := by simp; omega
    go_wp2_with fail
    go_ret
    exact ⟨.no (fun h => by have := HN.out; have := h.1; omega), hs⟩
  ·obtain rfl : i = n := by omega
   have d1 : decide (i < i) = false := by simp
   have hmt : m = tot xs := by rw [HM.out, HN.out, List.take_length]
   have HMT := Lib.hid hmt
   have HML := Lib.hid (show i = xs.length from HN.out)
   clear hmt
   by_cases h60 : i ≤ 60
   ·have d2 : decide ((i : Int) ≤ 60) = true := by simp; omega
    by_cases h6 : m ≤ 6000
    ·have d3 : decide ((m : Int) ≤ 6000) = true := by simp; omega
     go_wp2_with fail
     go_ret
     exact ⟨.yes (by rw [← HML.out]; exact h60) (by rw [← HMT.out]; exact h6), hs⟩
    ·have d3 : decide ((m : Int) ≤ 6000) = false := by simp; omega
     go_wp2_with fail
     go_ret
     exact ⟨.no (fun h => by have := HMT.out; have := h.2; omega), hs⟩
   ·have d2 : decide ((i : Int) ≤ 60) = false := by simp; omega
    go_wp2_with fail
    go_ret
    exact ⟨.no (fun h => by have := HML.out; have := h.1; omega), hs⟩
theorem brx (f : Fm) (m : Nat) (w : World) : (Instr.build 57 #[(0, .agg (fl f).toArray), (1, .int .i64 (m : Int))]).run Try.prog w = .ok (.agg (rcl { f := f, mo := m } none 0).toArray) w := by kernel_rfl
set_option maxRecDepth 100000 in
set_option maxRecDepth 100000 in
set_option maxHeartbeats 4000000 in
theorem plays_st (hs : St w0 X L w) (f : Fm) (mo : Int) {A : Option Addr} {R : List (List Value)} {xs : List Stp} {n ca : Nat} (hn : n = xs.length) (hA : Reads L A R.flatten) (hS : SS L R xs) (hl : ∀ p ∈ xs, p.x.length ≤ 140737488351232) (hnl : n ≤ 140737488351232) :
  Calls Try.prog 6 #[fv f, .int .i64 mo, .slice A n ca] w fun e' w' => e' = .returned (.bool true) ∧ St w0 X L w' := by
 obtain ⟨F, hF⟩ : ∃ F, F = fl f := ⟨_, rfl⟩
 have FL := Lib.hid (show F.length = 3 by rw [hF]; rfl)
 have CK : Hid (∀ (M : List At) (w : World), St w0 X (M ++ L) w → Calls Try.prog 9 #[] w fun e' w' => e' = .returned (.bool true) ∧ St w0 X (M ++ L) w') := Lib.hid (fun M w hs => known_st hs)
 have CF : Hid (∀ (M : List At) (w : World), St w0 X (M ++ L) w → Calls Try.prog 21 #[.slice A n ca] w fun e' w' => ∃ b, e' = .returned (.bool b) ∧ Hid (b = true → xs.length ≤ 60 ∧ tot xs ≤ 6000) ∧ St w0 X (M ++ L) w') := Lib.hid (fun M w hs => (few_st hs hn (hA.app M) (hS.mono (fun _ h => List.mem_append.2 (.inr h))) hl hnl).mono (by
  rintro e' w' ⟨h1, h2⟩
  obtain ⟨b, h3, h4⟩ := h1.out
  exact ⟨b, h3, h4, h2⟩))
 have C1 : Hid (∀ (i : Nat) (hi : i < xs.length) (w : World), (∀ a ∈ L, a.holds w) → ∃ PC XA xc, Hid (PC = stl xs[i].k XA xs[i].x.length xc xs[i].f) ∧ Hid (Reads L XA (xs[i].x.map v8)) ∧ ∃ g o, A = some ⟨g, o, none⟩ ∧ Hid (Reads L (some ⟨g, o + i * 5, none⟩) PC)) := Lib.hid (fun i hi w hw => by
  obtain ⟨PC, XA, xc, h1, h2, h3⟩ := hS.row hi
  obtain ⟨g, o, hg, _, _⟩ := (hA w hw).cells (hS.ne hi)
  exact ⟨PC, XA, xc, Lib.hid h1, Lib.hid h2, g, o, hg, Lib.hid (h3 g o (hg ▸ hA))⟩)
 have HN := Lib.hid hn
 rw [Pd.fv_eq, ← hF]
 by_cases hf : fits f mo = true
 rotate_left
 ·have hf' : fits f mo = false := by simpa using hf
  have CN : Hid (∀ (M : List At) (w : World), St w0 X M w → Calls Try.prog 10 #[.agg F.toArray, .int .i64 mo] w fun e w' => e = .returned (.tuple #[.pointer none, iv 2]) ∧ St w0 X M w') := Lib.hid (fun M w hs => by rw [hF, ← Pd.fv_eq]; exact new_no hs f mo hf')
  have CV : Hid (∀ (M : List At) (w : World), St w0 X M w → Calls Try.prog 22 #[.agg F.toArray, .int .i64 mo] w fun e w' => e = .returned (.bool false) ∧ St w0 X M w') := Lib.hid (fun M w hs => by rw [hF, ← Pd.fv_eq, ← hf']; exact rvalid_st hs f mo)
  clear hf hf' hF hn hA hS hl hnl
  go_enter Try.func6, Try.ntmps6
  go_upto_if 14 with (first | ((first | with_reducible refine Se.ab hs ?_ | with_reducible refine Se.abc hs ?_); clear hs; (first | (generalize w.heap.size = g3; intro w hs))) | (go_at_call 21; refine Calls.mono (CF.out [_] _ hs) ?_; clear hs; rintro e w ⟨b, rfl, Hb, hs⟩))
  cases b with
  | false =>
   go_wp2_with (first | (go_at_call 9; refine Calls.mono (CK.out [_] _ hs) ?_; clear hs; rintro e w ⟨rfl, hs⟩))
   go_ret
   exact ⟨rfl, hs.drop⟩
  | true =>
   go_wp2_with (first | ((with_reducible refine Se.isL (o := ⟨some 17, _, _, _, _, _⟩) ?_); (refine Se.toL rfl (Se.ldw (o := ⟨some 17, _, _, _, _, _⟩) hs rfl rfl ((Reads.blk 0 rfl)) ((by rw [FL.out]; kernel_rfl)) (by kernel_rfl) ?_))) | ((with_reducible refine Se.isL (o := ⟨some 22, _, _, _, _, _⟩) ?_); (refine Se.toL rfl (Se.ldw (o := ⟨some 22, _, _, _, _, _⟩) hs rfl rfl ((Reads.blk 0 rfl)) ((by rw [FL.out]; kernel_rfl)) (by kernel_rfl) ?_))) | (go_at_call 10; refine Calls.mono (CN.out _ _ hs) ?_; clear hs; rintro e w ⟨rfl, hs⟩) | (go_at_call 22; refine Calls.mono (CV.out _ _ hs) ?_; clear hs; rintro e w ⟨rfl, hs⟩) | (go_at_call 9; refine Calls.mono (CK.out [_] _ hs) ?_; clear hs; rintro e w ⟨rfl, hs⟩))
   go_ret
   exact ⟨rfl, hs.drop⟩
 have hm : ∃ m : Nat, mo = (m : Int) ∧ m ≠ 0 := by
  unfold fits at hf
  simp only [Bool.and_eq_true, decide_eq_true_eq] at hf
  exact ⟨mo.toNat, by omega, by omega⟩
 obtain ⟨m, rfl, hm0⟩ := hm
 obtain ⟨R0, hR0⟩ : ∃ R0, R0 = rcl { f := f, mo := m } none 0 := ⟨_, rfl⟩
 have CN : Hid (∀ (M : List At) (w : World), St w0 X M w → Calls Try.prog 10 #[.agg F.toArray, .int .i64 (m : Int)] w fun e w' => ∃ g, e = .returned (.tuple #[.pointer (some ⟨g, 0, none⟩), iv 0]) ∧ St w0 X (pR g { f := f, mo := m } none 0 :: pO none none 0 { f := f, mo := m } :: M) w') := Lib.hid (fun M w hs => by rw [hF, ← Pd.fv_eq]; exact new_yes hs f m hf)
 have CV : Hid (∀ (M : List At) (w : World), St w0 X M w → Calls Try.prog 22 #[.agg F.toArray, .int .i64 (m : Int)] w fun e w' => e = .returned (.bool true) ∧ St w0 X M w') := Lib.hid (fun M w hs => by rw [hF, ← Pd.fv_eq, ← hf]; exact rvalid_st hs f m)
 have BR : Hid (∀ w : World, (Instr.build 57 #[(0, .agg F.toArray), (1, .int .i64 (m : Int))]).run Try.prog w = .ok (.agg R0.toArray) w) := Lib.hid (fun w => by rw [hF, hR0]; exact brx f m w)
 have R0L := Lib.hid (show R0.length = 8 by rw [hR0]; rfl)
 have R0O := Lib.hid (show ∀ v ∈ R0, v.oneCell' = true by rw [hR0]; exact rcl_one _ _ _)
 have HR0 := Lib.hid hR0
 have HM0 := Lib.hid hm0
 clear hf hF hn hA hS hl hR0 hm0
 go_enter Try.func6, Try.ntmps6
 go_upto_if 14 with (first | ((first | with_reducible refine Se.ab hs ?_ | with_reducible refine Se.abc hs ?_); clear hs; (first | (generalize w.heap.size = g3; intro w hs))) | (go_at_call 21; refine Calls.mono (CF.out [_] _ hs) ?_; clear hs; rintro e w ⟨b, rfl, Hb, hs⟩))
 cases b with
 | false =>
  go_wp2_with (first | (go_at_call 9; refine Calls.mono (CK.out [_] _ hs) ?_; clear hs; rintro e w ⟨rfl, hs⟩))
  go_ret
  exact ⟨rfl, hs.drop⟩
 | true =>
  have HB := Lib.hid (Hb.out rfl)
  clear Hb CF
  go_upto_region 8 with (first | ((with_reducible refine Se.isL (o := ⟨some 17, _, _, _, _, _⟩) ?_); (refine Se.toL rfl (Se.ldw (o := ⟨some 17, _, _, _, _, _⟩) hs rfl rfl ((Reads.blk 0 rfl)) ((by rw [FL.out]; kernel_rfl)) (by kernel_rfl) ?_))) | ((with_reducible refine Se.isL (o := ⟨some 22, _, _, _, _, _⟩) ?_); (refine Se.toL rfl (Se.ldw (o := ⟨some 22, _, _, _, _, _⟩) hs rfl rfl ((Reads.blk 2 rfl)) ((by rw [FL.out]; kernel_rfl)) (by kernel_rfl) ?_))) | (go_at_call 10; refine Calls.mono (CN.out _ _ hs) ?_; clear hs; rintro e w ⟨g, rfl, hs⟩) | (go_at_call 22; refine Calls.mono (CV.out _ _ hs) ?_; clear hs; rintro e w ⟨rfl, hs⟩))
  replace hs := ((hs.addRd (A := none) (xs := []) (.inl rfl) (by intro b _ hx; exact absurd rfl hx)).pull 1 rfl).pull 2 rfl
  simp only [List.eraseIdx_cons_succ, List.eraseIdx_cons_zero] at hs
  go_wp2_with (first | ((with_reducible refine Se.isL (o := ⟨some 41, _, _, _, _, _⟩) ?_); (refine Se.toL rfl (Se.ldw (o := ⟨some 41, _, _, _, _, _⟩) hs rfl rfl ((Reads.blk 3 rfl)) ((by rw [FL.out]; kernel_rfl)) (by kernel_rfl) ?_))) | ((with_reducible refine Se.isL (o := ⟨some 43, _, _, _, _, _⟩) ?_); (refine Se.toL rfl (Se.bd (o := ⟨some 43, _, _, _, _, _⟩) rfl rfl (BR.out _) ?_))) | ((with_reducible refine Se.isL (o := ⟨some 9, _, _, _, _, _⟩) ?_); (refine Se.toL rfl (Se.al (o := ⟨some 9, _, _, _, _, _⟩) hs rfl (zR) ?_); clear hs; rintro w g9 - hs)) | ((with_reducible refine Se.isL (o := ⟨none, _, _, _, _, _⟩) ?_); (refine Se.toL rfl (Se.sow 0 hs rfl rfl rfl rfl (R0O.out) ((by rw [R0L.out]; kernel_rfl)) ((by rw [R0L.out]; rfl)) ?_); clear hs; intro w hs; try simp only [List.cons_append, List.nil_append, List.set_cons_zero] at hs)))
  go_loopg [10] n (fun gh s10 wr => ∃ (i : Nat) (s : Rc) (RL : List Value) (r : Option Nat) (B : Option Addr) (c : Nat) (B2 : Option Addr) (c2 : Nat), gh = n - i ∧ i ≤ n ∧ s10 = .int .i64 (i : Int) ∧ Hid (okD s (tot (xs.take i)) i) ∧ Hid (RL = rcl s B2 c2) ∧ Hid (s.b.length ≤ c2) ∧ St w0 X (.blk g9 57 RL :: .blk g3 23 F :: pR g s B c :: pO r B c s :: pM B2 s :: L) wr)
  case atStart =>
   refine ⟨0, { f := f, mo := m }, R0, none, none, 0, none, 0, rfl, Nat.zero_le _, rfl, Lib.hid ⟨HM0.out, Nat.le_refl _, Nat.le_refl _⟩, HR0, Lib.hid (Nat.le_refl _), ?_⟩
   replace hs := hs.pull 3 rfl
   replace hs := hs.pull 2 rfl
   replace hs := hs.pull 3 rfl
   replace hs := hs.pull 4 rfl
   replace hs := hs.pull 4 rfl
   simp only [List.eraseIdx_cons_succ, List.eraseIdx_cons_zero] at hs
   exact hs
  case round =>
   clear hs
   rename World => w
   obtain ⟨i, s, RL, r, B, c, B2, c2, rfl, hi, rfl, HO, HRL, HC, hs⟩ := hrel
   have RLL := Lib.hid (show RL.length = 8 by rw [HRL.out]; rfl)
   by_cases hlt : i < n
   ·have hlt' : (i : Int) < (n : Int) := by omega
    have hil : i < xs.length := by have := HN.out; omega
    obtain ⟨PC, XA, xc, HPC, HX, ga, oa, rfl, RP⟩ := C1.out i hil w (fun a ha => hs.hold a (by simp [ha]))
    have HT := Lib.hid (tot_snoc xs i hil)
    have HTL := Lib.hid (Nat.le_trans (tot_le xs (i + 1)) HB.out.2)
    obtain ⟨px, hpx⟩ : ∃ px, xs[i] = px := ⟨_, rfl⟩
    rw [hpx] at HT HPC HX
    have PCL := Lib.hid (show PC.length = 5 by rw [HPC.out]; rfl)
    have CD : Hid (∀ (w : World), St w0 X (.blk g9 57 RL :: .blk g3 23 F :: pR g s B c :: pO r B c s :: pM B2 s :: L) w → Calls Try.prog 23 #[.pointer (some ⟨g, 0, none⟩), .agg RL.toArray, .agg PC.toArray] w fun e' w' => ∃ s' RL' r' B' c' B2' c2', e' = .returned (.tuple #[.agg RL'.toArray, .bool true]) ∧ Hid (okD s' (tot (xs.take (i + 1))) (i + 1)) ∧ Hid (RL' = rcl s' B2' c2') ∧ Hid (s'.b.length ≤ c2') ∧ St w0 X (.blk g9 57 RL :: .blk g3 23 F :: pR g s' B' c' :: pO r' B' c' s' :: pM B2' s' :: L) w') := Lib.hid (fun w hs => by
     rw [HT.out]
     exact do_m [_, _] hs HRL.out HC.out px HPC.out (HX.out.app [_, _]) HO.out (by rw [← HT.out]; have := HTL.out; omega) (by have := HB.out.1; omega))
    clear hpx hil HX HPC
    go_upto_region 13 with (fail)
    refine Ch.region' 12 (fun wx => Rd wx (some ⟨ga, oa + i * 5, none⟩) PC) (fun | 1 => true | 6 => true | 10 => true | _ => false) (by kernel_rfl) (by decide +kernel) (RP.out _ (fun a ha => hs.drew.hold a (by simp [ha]))) ?_
    replace hs := hs.drew
    generalize w.drew = w at hs ⊢
    change Ch.CW _ _ _ _ _ [0, 1, 2, 3, 4, 5, 6, 7, 8, 9, 10, 11] _ _
    iterate 1 ((first | (refine Ch.pure (v := ?_) (by rfl) (by rfl) (by rfl) (fun wx hS => ?_) ?_; rotate_left; (focus (go_simp; (first | done | with_reducible rfl))))); (try simp only [Act.put, List.setIfInBounds_toArray, List.set_cons_zero, List.set_cons_succ]))
    refine Ch.noise (by rfl) (by rfl) (by rfl) (Se.ldw hs rfl rfl (Reads.blk 0 rfl) (by rw [RLL.out] <;> kernel_rfl) (by kernel_rfl) ?_)
    refine ⟨RP.out _ (fun a ha => hs.hold a (by simp [ha])), ?_⟩
    (try simp only [Act.put, List.setIfInBounds_toArray, List.set_cons_zero, List.set_cons_succ])
    iterate 4 ((first | (refine Ch.pure (v := ?_) (by rfl) (by rfl) (by rfl) (fun wx hS => ?_) ?_; rotate_left; (focus (go_simp; (first | done | with_reducible rfl)))) | refine Ch.pure (v := _) (by rfl) (by rfl) (by rfl) (fun wx hS => Se.xla rfl rfl hS (by rw [PCL.out] <;> kernel_rfl) (by kernel_rfl)) ?_); (try simp only [Act.put, List.setIfInBounds_toArray, List.set_cons_zero, List.set_cons_succ]))
    refine Ch.noise (by rfl) (by rfl) (by rfl) ?_
    refine Se.gcall (f := 23) (args := #[.pointer (some ⟨g, 0, none⟩), .agg RL.toArray, .agg PC.toArray]) ?_ ?_
    ·go_simp
    refine Calls.mono (CD.out _ hs) ?_
    clear hs
    rintro e w ⟨s', RL', r', B', c', B2', c2', rfl, HO', HRL', HC', hs⟩
    refine ⟨_, rfl, RP.out _ (fun a ha => hs.hold a (by simp [ha])), ?_⟩
    (try simp only [Act.put, List.setIfInBounds_toArray, List.set_cons_zero, List.set_cons_succ])
    iterate 3 ((first | (refine Ch.pure (v := ?_) (by rfl) (by rfl) (by rfl) (fun wx hS => ?_) ?_; rotate_left; (focus (go_simp; (first | done | with_reducible rfl))))); (try simp only [Act.put, List.setIfInBounds_toArray, List.set_cons_zero, List.set_cons_succ]))
    refine Ch.noise (by rfl) (by rfl) (by rfl) (Se.sow 0 (vs := RL') hs rfl rfl rfl rfl (by rw [HRL'.out]; exact rcl_one _ _ _) (by rw [HRL'.out]; kernel_rfl) (by rw [HRL'.out, RLL.out]; rfl) ?_)
    clear hs
    intro w hs
    simp only [List.cons_append, List.nil_append, List.set_cons_zero, List.set_cons_succ] at hs
    refine ⟨RP.out _ (fun a ha => hs.hold a (by simp [ha])), ?_⟩
    (try simp only [Act.put, List.setIfInBounds_toArray, List.set_cons_zero, List.set_cons_succ])
    iterate 1 ((first | (refine Ch.pure (v := ?_) (by rfl) (by rfl) (by rfl) (fun wx hS => ?_) ?_; rotate_left; (focus (go_simp; (first | done | with_reducible rfl))))); (try simp only [Act.put, List.setIfInBounds_toArray, List.set_cons_zero, List.set_cons_succ]))
    refine Ch.done ?_
    try simp only [List.drop_succ_cons, List.drop_zero]
    clear CD
    go_wp2_with fail
    go_roundg (n - (i + 1))
    case measure => omega
    case rel => exact ⟨i + 1, s', RL', r', B', c', B2', c2', rfl, by omega, by go_num, HO', HRL', HC', hs⟩
   ·obtain rfl : i = n := by omega
    clear HO HC
    go_wp2_with (first | ((with_reducible refine Se.isL (o := ⟨some 63, _, _, _, _, _⟩) ?_); (refine Se.toL rfl (Se.ldw (o := ⟨some 63, _, _, _, _, _⟩) hs rfl rfl ((Reads.blk 0 rfl)) ((by rw [RLL.out]; kernel_rfl)) (by kernel_rfl) ?_))) | (go_at_call 24; refine Calls.mono (looks_m [_, _] hs HRL.out) ?_; clear hs; rintro e w ⟨rfl, hs⟩) | (go_at_call 9; refine Calls.mono (CK.out [_, _, _, _, _] _ hs) ?_; clear hs; rintro e w ⟨rfl, hs⟩))
    go_ret
    exact ⟨rfl, hs.drop.drop.drop.drop.drop⟩
theorem plays_any (f : Fm) (mo : Int) (W : World) {A : Option Addr} {n c : Nat} {R : List (List Value)} {qs : List (Stp × Option Addr × Nat)} (hn : n = (qs.map (·.1)).length) (hnB : n ≤ reachBytes) (hR : Rd W A R.flatten) (hq : ∀ q ∈ qs, Rd W q.2.1 (q.1.x.map v8)) (hl : ∀ q ∈ qs.map (·.1), q.x.length ≤ reachBytes) (hS : SS (rds (qs.map fun q => (q.2.1, q.1.x.map v8))) R (qs.map (·.1))) :
  Calls Try.prog 6 #[fv f, .int .i64 mo, .slice A n c] W fun e w' => e = .returned (.bool true) ∧ Below W.heap.size W w' := by
 have h0 : St W [] (rds ((A, R.flatten) :: qs.map fun q => (q.2.1, q.1.x.map v8))) W := start_rds (by
  intro q h
  rcases List.mem_cons.1 h with rfl | h
  ·exact hR
  ·obtain ⟨y, hy, rfl⟩ := List.mem_map.1 h
   exact hq y hy)
 exact (plays_st h0 f mo hn (rds_mem List.mem_cons_self) (hS.rds (fun q h => List.mem_cons_of_mem _ h)) hl hnB).mono fun e w' h => ⟨h.1, h.2.below⟩
end Sr
end Go.Proofs.Ytdngfcmakjlamaa


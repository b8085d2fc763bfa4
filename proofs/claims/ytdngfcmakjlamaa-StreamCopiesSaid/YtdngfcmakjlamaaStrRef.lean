/- Layer 36 in plain Lean: a receiver and its calls. No condition. -/
import Derived.Test.YtdngfcmakjlamaaPduDecN
set_option linter.unusedSimpArgs false
set_option linter.unusedVariables false
namespace Go.Proofs.Ytdngfcmakjlamaa
namespace Sr
open Pd (Fm PDU meas dec framed)
structure Rc where
 f : Fm
 mo : Nat
 b : List (BitVec 8) := []
 e : Nat := 0
 nb : Nat := 0
 np : Nat := 0
def fits (f : Fm) (mo : Int) : Bool := framed f && decide (128 ≤ mo ∧ mo ≤ 4194304)
def addE (s : Rc) (x : List (BitVec 8)) : Rc × Nat := if s.e ≠ 0 then (s, s.e) else if 4194304 < s.b.length + x.length then (s, 7) else ({ s with b := s.b ++ x }, 0)
def takeE (s : Rc) : PDU × Nat × Nat :=
 if s.b.length < 8 then ({}, 0, 9) else
 if (meas s.b s.f).2 ≠ 0 then ({}, 0, (meas s.b s.f).2) else
 if s.mo < (meas s.b s.f).1 then ({}, 0, 5) else
 if s.b.length < (meas s.b s.f).1 then ({}, 0, 9) else
 ((dec (s.b.take (meas s.b s.f).1) s.f).1, (meas s.b s.f).1, (dec (s.b.take (meas s.b s.f).1) s.f).2)
def nextE (s : Rc) : Rc × PDU × Nat :=
 if s.e ≠ 0 then (s, {}, s.e) else
 if (takeE s).2.2 = 9 then (s, {}, 9) else
 if (takeE s).2.2 ≠ 0 then ({ s with e := (takeE s).2.2, b := [] }, {}, (takeE s).2.2) else
 ({ s with b := s.b.drop (takeE s).2.1, nb := s.nb + (takeE s).2.1, np := s.np + 1 }, (takeE s).1, 0)
def refE (s : Rc) (f : Fm) : Rc × Nat := if s.e ≠ 0 then (s, s.e) else if framed f = true then ({ s with f := f }, 0) else (s, 2)
theorem take_len {s : Rc} {p : PDU} {n e : Nat} (h : takeE s = (p, n, e)) : n ≤ s.b.length := by
 unfold takeE at h
 repeat' split at h
 all_goals (cases h; first | omega | exact Nat.zero_le _)
theorem take_none {s : Rc} {p : PDU} {n e : Nat} (h : takeE s = (p, n, e)) (he : e ≠ 0) : p = {} := by
 unfold takeE at h
 repeat' split at h
 all_goals first | (cases h; rfl) | skip
 cases h
 exact Pd.dec_err rfl he
end Sr
end Go.Proofs.Ytdngfcmakjlamaa
/- Layer 36: a receiver's small methods. No condition but Go's own limits. -/
namespace Go.Proofs.Ytdngfcmakjlamaa
open Go Go.RowKit
namespace Sr
open Pd (Fm PDU meas dec framed pc iv fl fv)
open Se (St At Reads Cell)
open Li (v8 v8_one Rd Blk Fr)
open Bv (n8 n16 n32 n64)
variable {w0 w : World} {X : List Nat} {L : List At} {s s' : Rc} {g c : Nat} {B : Option Addr} {r : Option Nat}
attribute [local irreducible] Calls
def rcl (s : Rc) (B : Option Addr) (c : Nat) : List Value := [.bool s.f.hd, .bool s.f.dd, .int .i64 s.f.al, iv s.mo, .slice B s.b.length c, iv s.e, iv s.nb, iv s.np]
abbrev pR (g : Nat) (s : Rc) (B : Option Addr) (c : Nat) : At := .blk g 67 (rcl s B c)
abbrev pO (r : Option Nat) (B : Option Addr) (c : Nat) (s : Rc) : At := .own 1 r B s.b.length c (s.b.map v8)
theorem rcl_one (s : Rc) (B : Option Addr) (c : Nat) : ∀ v ∈ rcl s B c, v.oneCell' = true := by simp [rcl, Value.oneCell', iv]
theorem int_ne {e : Nat} (h : e ≠ 0) : ((e : Int) != 0) = true ∧ ((e : Int) == 0) = false := by simp; omega
set_option maxRecDepth 100000 in
set_option maxHeartbeats 4000000 in
theorem valid_st (hs : St w0 X L w) (f : Fm) : Calls Try.prog 29 #[fv f] w fun e w' => e = .returned (.bool (framed f)) ∧ St w0 X L w' := by
 obtain ⟨b, hb⟩ : ∃ b, framed f = b := ⟨_, rfl⟩
 obtain ⟨F, hF⟩ : ∃ F, F = fl f := ⟨_, rfl⟩
 obtain ⟨al, hal⟩ : ∃ al, al = f.al := ⟨_, rfl⟩
 have F2 := Lib.hid (show F[2]? = some (.int .i64 al) by rw [hF, hal]; rfl)
 have hb2 : b = (decide (0 ≤ al) && decide (al ≤ 31)) := by rw [← hb, hal]; unfold framed; rw [Bool.eq_iff_iff]; simp
 rw [Pd.fv_eq, ← hF, hb]
 clear hF hb hal
 by_cases h1 : 0 ≤ al
 ·by_cases h2 : al ≤ 31
  ·have hbt := Lib.hid (show b = true by rw [hb2]; simp [h1, h2])
   clear hb2
   go_enter Try.func29, Try.ntmps29
   go_wp2_with (first | ((with_reducible refine Se.isL (o := ⟨some 4, _, _, _, _, _⟩) ?_); (refine Se.toL rfl (Se.ld (o := ⟨some 4, _, _, _, _, _⟩) hs rfl rfl (Cell.blk 0 rfl F2.out) (by kernel_rfl) ?_))) | ((with_reducible refine Se.isL (o := ⟨some 8, _, _, _, _, _⟩) ?_); (refine Se.toL rfl (Se.ld (o := ⟨some 8, _, _, _, _, _⟩) hs rfl rfl (Cell.blk 0 rfl F2.out) (by kernel_rfl) ?_))) | ((first | with_reducible refine Se.ab hs ?_ | with_reducible refine Se.abc hs ?_); clear hs; (first | (generalize w.heap.size = g1; intro w hs))))
   go_ret
   exact ⟨by rw [hbt.out]; rfl, hs.drop⟩
  ·have hbt := Lib.hid (show b = false by rw [hb2]; simp [h2])
   clear hb2
   go_enter Try.func29, Try.ntmps29
   go_wp2_with (first | ((with_reducible refine Se.isL (o := ⟨some 4, _, _, _, _, _⟩) ?_); (refine Se.toL rfl (Se.ld (o := ⟨some 4, _, _, _, _, _⟩) hs rfl rfl (Cell.blk 0 rfl F2.out) (by kernel_rfl) ?_))) | ((with_reducible refine Se.isL (o := ⟨some 8, _, _, _, _, _⟩) ?_); (refine Se.toL rfl (Se.ld (o := ⟨some 8, _, _, _, _, _⟩) hs rfl rfl (Cell.blk 0 rfl F2.out) (by kernel_rfl) ?_))) | ((first | with_reducible refine Se.ab hs ?_ | with_reducible refine Se.abc hs ?_); clear hs; (first | (generalize w.heap.size = g1; intro w hs))))
   go_ret
   exact ⟨by rw [hbt.out]; rfl, hs.drop⟩
 ·have hbt := Lib.hid (show b = false by rw [hb2]; simp [h1])
  clear hb2
  go_enter Try.func29, Try.ntmps29
  go_wp2_with (first | ((with_reducible refine Se.isL (o := ⟨some 4, _, _, _, _, _⟩) ?_); (refine Se.toL rfl (Se.ld (o := ⟨some 4, _, _, _, _, _⟩) hs rfl rfl (Cell.blk 0 rfl F2.out) (by kernel_rfl) ?_))) | ((first | with_reducible refine Se.ab hs ?_ | with_reducible refine Se.abc hs ?_); clear hs; (first | (generalize w.heap.size = g1; intro w hs))))
  go_ret
  exact ⟨by rw [hbt.out]; rfl, hs.drop⟩
set_option maxRecDepth 100000 in
set_option maxHeartbeats 4000000 in
theorem new_st (hs : St w0 X L w) (f : Fm) (mo : Int) : Calls Try.prog 10 #[fv f, .int .i64 mo] w fun e w' => (fits f mo = false ∧ e = .returned (.tuple #[.pointer none, iv 2]) ∧ St w0 X L w') ∨ (fits f mo = true ∧ ∃ g m, mo = (m : Nat) ∧ e = .returned (.tuple #[.pointer (some ⟨g, 0, none⟩), iv 0]) ∧ St w0 X (pR g { f := f, mo := m } none 0 :: pO none none 0 { f := f, mo := m } :: L) w') := by
 obtain ⟨b, hb⟩ : ∃ b, framed f = b := ⟨_, rfl⟩
 obtain ⟨F, hF⟩ : ∃ F, F = fl f := ⟨_, rfl⟩
 have FL := Lib.hid (show F.length = 3 by rw [hF]; rfl)
 have CV : Hid (∀ (L' : List At) (w : World), St w0 X (L' ++ L) w → Calls Try.prog 29 #[.agg F.toArray] w fun e w' => e = .returned (.bool b) ∧ St w0 X (L' ++ L) w') := Lib.hid (fun L' w hs => by rw [hF, ← Pd.fv_eq, ← hb]; exact valid_st hs f)
 have HF := Lib.hid (show fits f mo = (b && decide (128 ≤ mo ∧ mo ≤ 4194304)) by rw [← hb]; rfl)
 have BR : Hid (∀ (m : Nat) (w : World), mo = (m : Int) → (Instr.build 67 #[(0, .agg F.toArray), (1, .int .i64 mo)]).run Try.prog w = .ok (.agg (rcl { f := f, mo := m } none 0).toArray) w) := Lib.hid (fun m w h => by rw [hF, h]; kernel_rfl)
 rw [Pd.fv_eq, ← hF]
 clear hF hb
 cases b with
 | false =>
  go_enter Try.func10, Try.ntmps10
  go_wp2_with (first | ((with_reducible refine Se.isL (o := ⟨some 6, _, _, _, _, _⟩) ?_); (refine Se.toL rfl (Se.ldw (o := ⟨some 6, _, _, _, _, _⟩) hs rfl rfl ((Reads.blk 0 rfl)) ((by rw [FL.out]; kernel_rfl)) (by kernel_rfl) ?_))) | ((first | with_reducible refine Se.ab hs ?_ | with_reducible refine Se.abc hs ?_); clear hs; (first | (generalize w.heap.size = g2; intro w hs))) | (go_at_call 29; refine Calls.mono (CV.out [_] _ hs) ?_; clear hs; rintro e w ⟨rfl, hs⟩))
  go_ret2
  exact .inl ⟨by rw [HF.out]; rfl, rfl, hs.drop⟩
 | true =>
 by_cases h1 : mo < 128
 ·have h1' : decide (mo < 128) = true := by simpa using h1
  have HX : Hid (fits f mo = false) := Lib.hid (by rw [HF.out]; simp; omega)
  clear h1 HF
  go_enter Try.func10, Try.ntmps10
  go_wp2_with (first | ((with_reducible refine Se.isL (o := ⟨some 6, _, _, _, _, _⟩) ?_); (refine Se.toL rfl (Se.ldw (o := ⟨some 6, _, _, _, _, _⟩) hs rfl rfl ((Reads.blk 0 rfl)) ((by rw [FL.out]; kernel_rfl)) (by kernel_rfl) ?_))) | ((first | with_reducible refine Se.ab hs ?_ | with_reducible refine Se.abc hs ?_); clear hs; (first | (generalize w.heap.size = g2; intro w hs))) | (go_at_call 29; refine Calls.mono (CV.out [_] _ hs) ?_; clear hs; rintro e w ⟨rfl, hs⟩))
  go_ret2
  exact .inl ⟨HX.out, rfl, hs.drop⟩
 by_cases h2 : 4194304 < mo
 ·have h1' : decide (mo < 128) = false := by simpa using h1
  have h2' : decide (4194304 < mo) = true := by simpa using h2
  have HX : Hid (fits f mo = false) := Lib.hid (by rw [HF.out]; simp; omega)
  clear h1 h2 HF
  go_enter Try.func10, Try.ntmps10
  go_wp2_with (first | ((with_reducible refine Se.isL (o := ⟨some 6, _, _, _, _, _⟩) ?_); (refine Se.toL rfl (Se.ldw (o := ⟨some 6, _, _, _, _, _⟩) hs rfl rfl ((Reads.blk 0 rfl)) ((by rw [FL.out]; kernel_rfl)) (by kernel_rfl) ?_))) | ((first | with_reducible refine Se.ab hs ?_ | with_reducible refine Se.abc hs ?_); clear hs; (first | (generalize w.heap.size = g2; intro w hs))) | (go_at_call 29; refine Calls.mono (CV.out [_] _ hs) ?_; clear hs; rintro e w ⟨rfl, hs⟩))
  go_ret2
  exact .inl ⟨HX.out, rfl, hs.drop⟩
 ·have h1' : decide (mo < 128) = false := by simpa using h1
  have h2' : decide (4194304 < mo) = false := by simpa using h2
  have HX : Hid (fits f mo = true) := Lib.hid (by rw [HF.out]; simp; omega)
  obtain ⟨m, hm⟩ : ∃ m : Nat, mo = (m : Int) := ⟨mo.toNat, by omega⟩
  have HM := Lib.hid hm
  obtain ⟨RL, hRL⟩ : ∃ RL, RL = rcl { f := f, mo := m } none 0 := ⟨_, rfl⟩
  have BR2 : Hid (∀ w : World, (Instr.build 67 #[(0, .agg F.toArray), (1, .int .i64 mo)]).run Try.prog w = .ok (.agg RL.toArray) w) := Lib.hid (fun w => by rw [hRL]; exact BR.out m w hm)
  have HRL := Lib.hid hRL
  clear h1 h2 HF BR hm hRL
  go_enter Try.func10, Try.ntmps10
  go_wp2_with (first | ((with_reducible refine Se.isL (o := ⟨some 6, _, _, _, _, _⟩) ?_); (refine Se.toL rfl (Se.ldw (o := ⟨some 6, _, _, _, _, _⟩) hs rfl rfl ((Reads.blk 0 rfl)) ((by rw [FL.out]; kernel_rfl)) (by kernel_rfl) ?_))) | ((with_reducible refine Se.isL (o := ⟨some 17, _, _, _, _, _⟩) ?_); (refine Se.toL rfl (Se.ldw (o := ⟨some 17, _, _, _, _, _⟩) hs rfl rfl ((Reads.blk 0 rfl)) ((by rw [FL.out]; kernel_rfl)) (by kernel_rfl) ?_))) | ((with_reducible refine Se.isL (o := ⟨some 19, _, _, _, _, _⟩) ?_); (refine Se.toL rfl (Se.bd (o := ⟨some 19, _, _, _, _, _⟩) rfl rfl (BR2.out _) ?_))) | ((with_reducible refine Se.isL (o := ⟨some 20, _, _, _, _, _⟩) ?_); (refine Se.toL rfl (Se.bx (o := ⟨some 20, _, _, _, _, _⟩) hs rfl rfl (l := RL) rfl ?_); clear hs; rintro w g20 - hs)) | ((first | with_reducible refine Se.ab hs ?_ | with_reducible refine Se.abc hs ?_); clear hs; (first | (generalize w.heap.size = g2; intro w hs))) | (go_at_call 29; refine Calls.mono (CV.out [_] _ hs) ?_; clear hs; rintro e w ⟨rfl, hs⟩))
  go_ret2
  refine .inr ⟨HX.out, g20, m, HM.out, rfl, ?_⟩
  rw [HRL.out] at hs
  have h3 := (hs.perm (List.Perm.swap _ _ _)).drop
  exact (h3.nil_own 1 none).perm (List.Perm.swap _ _ _)
set_option maxRecDepth 100000 in
set_option maxHeartbeats 4000000 in
theorem none_st (hs : St w0 X (pR g s B c :: L) w) (hm : s.mo ≠ 0) : Calls Try.prog 48 #[.pointer (some ⟨g, 0, none⟩)] w fun e w' => e = .returned (.bool false) ∧ St w0 X (pR g s B c :: L) w' := by
 obtain ⟨RL, hRL⟩ : ∃ RL, RL = rcl s B c := ⟨_, rfl⟩
 obtain ⟨m, hmm⟩ : ∃ m, m = s.mo := ⟨_, rfl⟩
 have R3 := Lib.hid (show RL[3]? = some (iv m) by rw [hRL, hmm]; rfl)
 have m0 : ((m : Int) == 0) = false := by simp; omega
 simp only [pR] at hs ⊢
 rw [← hRL] at hs ⊢
 clear hRL hm hmm
 go_enter Try.func48, Try.ntmps48
 go_wp2_with (first | ((with_reducible refine Se.isL (o := ⟨some 9, _, _, _, _, _⟩) ?_); (refine Se.toL rfl (Se.ld (o := ⟨some 9, _, _, _, _, _⟩) hs rfl rfl (Cell.blk 0 rfl R3.out) (by kernel_rfl) ?_))))
 go_ret
 exact ⟨rfl, hs⟩
set_option maxRecDepth 100000 in
set_option maxHeartbeats 4000000 in
theorem ready_st (hs : St w0 X (pR g s B c :: L) w) (hm : s.mo ≠ 0) : Calls Try.prog 30 #[.pointer (some ⟨g, 0, none⟩)] w fun e w' => e = .returned (iv s.e) ∧ St w0 X (pR g s B c :: L) w' := by
 obtain ⟨RL, hRL⟩ : ∃ RL, RL = rcl s B c := ⟨_, rfl⟩
 have CN : Hid (∀ (w : World), St w0 X (.blk g 67 RL :: L) w → Calls Try.prog 48 #[.pointer (some ⟨g, 0, none⟩)] w fun e w' => e = .returned (.bool false) ∧ St w0 X (.blk g 67 RL :: L) w') := Lib.hid (fun w hs => by rw [hRL] at hs ⊢; exact none_st hs hm)
 have R5 := Lib.hid (show RL[5]? = some (iv s.e) by rw [hRL]; rfl)
 simp only [pR] at hs ⊢
 rw [← hRL] at hs ⊢
 clear hRL hm
 go_enter Try.func30, Try.ntmps30
 go_wp2_with (first | ((with_reducible refine Se.isL (o := ⟨some 8, _, _, _, _, _⟩) ?_); (refine Se.toL rfl (Se.ld (o := ⟨some 8, _, _, _, _, _⟩) hs rfl rfl (Cell.blk 0 rfl R5.out) (by kernel_rfl) ?_))) | (go_at_call 48; refine Calls.mono (CN.out _ hs) ?_; clear hs; rintro e w ⟨rfl, hs⟩))
 go_ret
 exact ⟨rfl, hs⟩
set_option maxRecDepth 100000 in
set_option maxHeartbeats 4000000 in
theorem held_st (hs : St w0 X (pR g s B c :: L) w) : Calls Try.prog 20 #[.pointer (some ⟨g, 0, none⟩)] w fun e w' => e = .returned (iv s.b.length) ∧ St w0 X (pR g s B c :: L) w' := by
 obtain ⟨RL, hRL⟩ : ∃ RL, RL = rcl s B c := ⟨_, rfl⟩
 have R4 := Lib.hid (show RL[4]? = some (.slice B s.b.length c) by rw [hRL]; rfl)
 simp only [pR] at hs ⊢
 rw [← hRL] at hs ⊢
 clear hRL
 go_enter Try.func20, Try.ntmps20
 go_wp2_with (first | ((with_reducible refine Se.isL (o := ⟨some 8, _, _, _, _, _⟩) ?_); (refine Se.toL rfl (Se.ld (o := ⟨some 8, _, _, _, _, _⟩) hs rfl rfl (Cell.blk 0 rfl R4.out) (by kernel_rfl) ?_))))
 go_ret
 exact ⟨rfl, hs⟩
set_option maxRecDepth 100000 in
set_option maxHeartbeats 4000000 in
theorem consumed_st (hs : St w0 X (pR g s B c :: L) w) : Calls Try.prog 18 #[.pointer (some ⟨g, 0, none⟩)] w fun e w' => e = .returned (.tuple #[iv s.nb, iv s.np]) ∧ St w0 X (pR g s B c :: L) w' := by
 obtain ⟨RL, hRL⟩ : ∃ RL, RL = rcl s B c := ⟨_, rfl⟩
 have R6 := Lib.hid (show RL[6]? = some (iv s.nb) by rw [hRL]; rfl)
 have R7 := Lib.hid (show RL[7]? = some (iv s.np) by rw [hRL]; rfl)
 simp only [pR] at hs ⊢
 rw [← hRL] at hs ⊢
 clear hRL
 go_enter Try.func18, Try.ntmps18
 go_upto_region 3 with (fail)
 refine Ch.region' 10 (fun wx => Blk wx g RL 67) (fun  | _ => false) (by kernel_rfl) (by decide +kernel) (hs.drew.hold (.blk g 67 RL) (by simp)) ?_
 replace hs := hs.drew
 generalize w.drew = w at hs ⊢
 change Ch.CW _ _ _ _ _ [0, 1, 2, 3, 4, 5, 6, 7, 8, 9] _ _
 iterate 10 ((first | (refine Ch.pure (v := ?_) (by rfl) (by rfl) (by rfl) (fun wx hS => ?_) ?_; rotate_left; (focus (go_simp; (first | done | with_reducible rfl)))) | refine Ch.pure (v := _) (by rfl) (by rfl) (by rfl) (fun wx hS => Se.xl rfl rfl (by rw [hS.cell]; exact R6.out) (by decide +kernel)) ?_ | refine Ch.pure (v := _) (by rfl) (by rfl) (by rfl) (fun wx hS => Se.xl rfl rfl (by rw [hS.cell]; exact R7.out) (by decide +kernel)) ?_); (try simp only [Act.put, List.setIfInBounds_toArray, List.set_cons_zero, List.set_cons_succ]))
 refine Ch.done ?_
 try simp only [List.drop_succ_cons, List.drop_zero]
 go_wp2_with fail
 go_ret2
 exact ⟨rfl, hs⟩
set_option maxRecDepth 100000 in
set_option maxHeartbeats 4000000 in
theorem add_st (hs : St w0 X (pR g s B c :: pO r B c s :: L) w) (hm : s.mo ≠ 0) (x : List (BitVec 8)) {A : Option Addr} {n cx : Nat} (hn : n = x.length) (hx : Reads L A (x.map v8)) (hl : s.b.length ≤ 4194304) (hnl : n ≤ 70368744177664) {e : Nat} (hr : addE s x = (s', e)) :
  Calls Try.prog 11 #[.pointer (some ⟨g, 0, none⟩), .slice A n cx] w fun e' w' => ∃ r' B' c', e' = .returned (iv e) ∧ St w0 X (pR g s' B' c' :: pO r' B' c' s' :: L) w' := by
 obtain ⟨RL, hRL⟩ : ∃ RL, RL = rcl s B c := ⟨_, rfl⟩
 obtain ⟨m, hm0⟩ : ∃ m, m = s.b.length := ⟨_, rfl⟩
 obtain ⟨ee, hee⟩ : ∃ ee, ee = s.e := ⟨_, rfl⟩
 have CR : Hid (∀ (L : List At) (w : World), St w0 X (.blk g 67 RL :: L) w → Calls Try.prog 30 #[.pointer (some ⟨g, 0, none⟩)] w fun e w' => e = .returned (iv ee) ∧ St w0 X (.blk g 67 RL :: L) w') := Lib.hid (fun L w hs => by rw [hRL] at hs ⊢; rw [hee]; exact ready_st hs hm)
 have R4 := Lib.hid (show RL[4]? = some (.slice B m c) by rw [hRL, hm0]; rfl)
 have RLen := Lib.hid (show RL.length = 8 by rw [hRL]; rfl)
 have HR2 : Hid (∀ B' c', RL.set 4 (.slice B' (m + n) c') = rcl { s with b := s.b ++ x } B' c') := Lib.hid (fun B' c' => by rw [hRL, hm0, hn]; simp [rcl])
 have HX := Lib.hid hx
 have HN := Lib.hid hn
 have HM := Lib.hid hm0
 have HRL := Lib.hid hRL
 have HEE := Lib.hid hee
 simp only [pR, pO] at hs ⊢
 rw [← hRL, ← hm0] at hs
 unfold addE at hr
 rw [← hee, ← hm0, ← hn] at hr
 clear hRL hm hx hn hee
 by_cases h0 : ee = 0
 ·rw [if_neg (by simpa using h0)] at hr
  subst h0
  have w1 : IntKind.i64.wrap ((m : Int) + (n : Int)) = ((m + n : Nat) : Int) := by rw [IntWalk.i64_in _ (by omega)]; omega
  by_cases h1 : 4194304 < m + n
  ·rw [if_pos h1] at hr
   cases hr
   have h1' : decide ((4194304 : Int) < (m : Int) + (n : Int)) = true := by simp; omega
   clear h1 hl hnl hm0
   go_enter Try.func11, Try.ntmps11
   go_wp2_with (first | ((with_reducible refine Se.isL (o := ⟨some 14, _, _, _, _, _⟩) ?_); (refine Se.toL rfl (Se.ld (o := ⟨some 14, _, _, _, _, _⟩) hs rfl rfl (Cell.blk 0 rfl R4.out) (by kernel_rfl) ?_))) | (go_at_call 30; refine Calls.mono (CR.out _ _ hs) ?_; clear hs; rintro e w ⟨rfl, hs⟩))
   go_ret
   exact ⟨r, B, c, rfl, by rw [HRL.out, HM.out] at hs; exact hs⟩
  ·rw [if_neg h1] at hr
   cases hr
   have h1' : decide ((4194304 : Int) < (m : Int) + (n : Int)) = false := by simp; omega
   clear hm0
   go_enter Try.func11, Try.ntmps11
   go_wp2_with (first | ((with_reducible refine Se.isL (o := ⟨some 14, _, _, _, _, _⟩) ?_); (refine Se.toL rfl (Se.ld (o := ⟨some 14, _, _, _, _, _⟩) hs rfl rfl (Cell.blk 0 rfl R4.out) (by kernel_rfl) ?_))) | ((with_reducible refine Se.isL (o := ⟨some 24, _, _, _, _, _⟩) ?_); (refine Se.toL rfl (Se.ld (o := ⟨some 24, _, _, _, _, _⟩) hs rfl rfl (Cell.blk 0 rfl R4.out) (by kernel_rfl) ?_))) | ((with_reducible refine Se.isL (o := ⟨some 26, _, _, _, _, _⟩) ?_); (refine Se.toL rfl (Se.ap (o := ⟨some 26, _, _, _, _, _⟩) 1 hs rfl rfl rfl rfl ((HX.out.app [_, _])) Try.underlying24 Pd.u8i3 rfl (by decide) ((v8_one _)) ((by rw [List.length_map, HN.out, Nat.mul_one])) ((by omega)) ((by omega)) ?_); clear hs; rintro w r' B' c' hs; try simp only [List.cons_append, List.nil_append, List.set_cons_zero, List.set_cons_succ] at hs)) | ((with_reducible refine Se.isL (o := ⟨none, _, _, _, _, _⟩) ?_); ((first | refine Se.toL rfl (Se.so 0 (v := .int _ _) hs rfl rfl rfl rfl rfl (by kernel_rfl) (by rw [RLen.out]; decide) ?_) | refine Se.toL rfl (Se.so 0 (v := .bool _) hs rfl rfl rfl rfl rfl (by kernel_rfl) (by rw [RLen.out]; decide) ?_) | refine Se.toL rfl (Se.so 0 (v := .slice _ _ _) hs rfl rfl rfl rfl rfl (by kernel_rfl) (by rw [RLen.out]; decide) ?_) | refine Se.toL rfl (Se.so 0 (v := .pointer _) hs rfl rfl rfl rfl rfl (by kernel_rfl) (by rw [RLen.out]; decide) ?_) | refine Se.toL rfl (Se.so 0 (v := .string _) hs rfl rfl rfl rfl rfl (by kernel_rfl) (by rw [RLen.out]; decide) ?_) | refine Se.toL rfl (Se.so 0 (v := .map _) hs rfl rfl rfl rfl rfl (by kernel_rfl) (by rw [RLen.out]; decide) ?_) | refine Se.toL rfl (Se.so 0 (v := .func _ _ _) hs rfl rfl rfl rfl rfl (by kernel_rfl) (by rw [RLen.out]; decide) ?_) | refine Se.toL rfl (Se.so 0 (v := .nilFunc) hs rfl rfl rfl rfl rfl (by kernel_rfl) (by rw [RLen.out]; decide) ?_)); clear hs; intro w hs; try simp only [List.cons_append, List.nil_append, List.set_cons_zero] at hs)) | (go_at_call 30; refine Calls.mono (CR.out _ _ hs) ?_; clear hs; rintro e w ⟨rfl, hs⟩))
   go_ret
   refine ⟨r', B', c', rfl, ?_⟩
   rw [HR2.out, ← List.map_append, ← HEE.out] at hs
   simp only [List.length_append, ← HM.out, ← HN.out]
   exact hs
 ·rw [if_pos h0] at hr
  cases hr
  have e1 := (int_ne h0).1
  clear h0 hl hnl hm0
  go_enter Try.func11, Try.ntmps11
  go_wp2_with (first | (go_at_call 30; refine Calls.mono (CR.out _ _ hs) ?_; clear hs; rintro e w ⟨rfl, hs⟩))
  go_ret
  exact ⟨r, B, c, rfl, by rw [HRL.out, HM.out] at hs; exact hs⟩
set_option maxRecDepth 100000 in
set_option maxHeartbeats 4000000 in
theorem reframe_st (hs : St w0 X (pR g s B c :: L) w) (hm : s.mo ≠ 0) (f : Fm) {e : Nat} (hr : refE s f = (s', e)) :
  Calls Try.prog 27 #[.pointer (some ⟨g, 0, none⟩), fv f] w fun e' w' => e' = .returned (iv e) ∧ St w0 X (pR g s' B c :: L) w' := by
 obtain ⟨RL, hRL⟩ : ∃ RL, RL = rcl s B c := ⟨_, rfl⟩
 obtain ⟨F, hF⟩ : ∃ F, F = fl f := ⟨_, rfl⟩
 obtain ⟨b, hb⟩ : ∃ b, framed f = b := ⟨_, rfl⟩
 obtain ⟨ee, hee⟩ : ∃ ee, ee = s.e := ⟨_, rfl⟩
 have FL := Lib.hid (show F.length = 3 by rw [hF]; rfl)
 have FO := Lib.hid (show ∀ v ∈ F, v.oneCell' = true by rw [hF]; simp [fl, Value.oneCell'])
 have CV : Hid (∀ (L : List At) (w : World), St w0 X L w → Calls Try.prog 29 #[.agg F.toArray] w fun e w' => e = .returned (.bool b) ∧ St w0 X L w') := Lib.hid (fun L w hs => by rw [hF, ← Pd.fv_eq, ← hb]; exact valid_st hs f)
 have CR : Hid (∀ (L : List At) (w : World), St w0 X (.blk g 67 RL :: L) w → Calls Try.prog 30 #[.pointer (some ⟨g, 0, none⟩)] w fun e w' => e = .returned (iv ee) ∧ St w0 X (.blk g 67 RL :: L) w') := Lib.hid (fun L w hs => by rw [hRL] at hs ⊢; rw [hee]; exact ready_st hs hm)
 have RLen := Lib.hid (show RL.length = 8 by rw [hRL]; rfl)
 have HR2 : Hid (RL.take 0 ++ F ++ RL.drop (0 + F.length) = rcl { s with f := f } B c) := Lib.hid (by rw [hRL, hF]; rfl)
 have HRL := Lib.hid hRL
 have HEE := Lib.hid hee
 simp only [pR] at hs ⊢
 rw [← hRL] at hs
 unfold refE at hr
 rw [← hee, hb] at hr
 rw [Pd.fv_eq, ← hF]
 clear hRL hm hF hb hee
 by_cases h0 : ee = 0
 ·rw [if_neg (by simpa using h0)] at hr
  subst h0
  cases b with
  | false =>
   cases hr
   go_enter Try.func27, Try.ntmps27
   go_wp2_with (first | ((with_reducible refine Se.isL (o := ⟨some 11, _, _, _, _, _⟩) ?_); (refine Se.toL rfl (Se.ldw (o := ⟨some 11, _, _, _, _, _⟩) hs rfl rfl ((Reads.blk 1 rfl)) ((by rw [FL.out]; kernel_rfl)) (by kernel_rfl) ?_))) | ((first | with_reducible refine Se.ab hs ?_ | with_reducible refine Se.abc hs ?_); clear hs; (first | (generalize w.heap.size = g3; intro w hs))) | (go_at_call 30; refine Calls.mono (CR.out _ _ (hs.perm (List.Perm.swap _ _ _))) ?_; clear hs; rintro e w ⟨rfl, hs⟩) | (go_at_call 29; refine Calls.mono (CV.out _ _ hs) ?_; clear hs; rintro e w ⟨rfl, hs⟩))
   go_ret
   exact ⟨rfl, by rw [HRL.out] at hs; exact (hs.perm (List.Perm.swap _ _ _)).drop⟩
  | true =>
   cases hr
   go_enter Try.func27, Try.ntmps27
   go_wp2_with (first | ((with_reducible refine Se.isL (o := ⟨some 11, _, _, _, _, _⟩) ?_); (refine Se.toL rfl (Se.ldw (o := ⟨some 11, _, _, _, _, _⟩) hs rfl rfl ((Reads.blk 1 rfl)) ((by rw [FL.out]; kernel_rfl)) (by kernel_rfl) ?_))) | ((with_reducible refine Se.isL (o := ⟨some 15, _, _, _, _, _⟩) ?_); (refine Se.toL rfl (Se.ldw (o := ⟨some 15, _, _, _, _, _⟩) hs rfl rfl ((Reads.blk 1 rfl)) ((by rw [FL.out]; kernel_rfl)) (by kernel_rfl) ?_))) | ((first | with_reducible refine Se.ab hs ?_ | with_reducible refine Se.abc hs ?_); clear hs; (first | (generalize w.heap.size = g3; intro w hs))) | (go_at_call 30; refine Calls.mono (CR.out _ _ (hs.perm (List.Perm.swap _ _ _))) ?_; clear hs; rintro e w ⟨rfl, hs⟩) | (go_at_call 29; refine Calls.mono (CV.out _ _ hs) ?_; clear hs; rintro e w ⟨rfl, hs⟩) | (with_reducible refine Se.isL (o := ⟨none, _, _, _, _, _⟩) ?_; refine Se.toL rfl (Se.soa 0 hs rfl rfl rfl rfl FO.out (by rw [FL.out]; kernel_rfl) (by rw [RLen.out, FL.out]; decide) ?_); clear hs; intro w hs; simp only [List.set_cons_zero] at hs))
   go_ret
   refine ⟨rfl, ?_⟩
   rw [HR2.out, ← HEE.out] at hs
   exact (hs.perm (List.Perm.swap _ _ _)).drop
 ·rw [if_pos h0] at hr
  cases hr
  have e1 := (int_ne h0).1
  clear h0
  go_enter Try.func27, Try.ntmps27
  go_wp2_with (first | ((first | with_reducible refine Se.ab hs ?_ | with_reducible refine Se.abc hs ?_); clear hs; (first | (generalize w.heap.size = g3; intro w hs))) | (go_at_call 30; refine Calls.mono (CR.out _ _ (hs.perm (List.Perm.swap _ _ _))) ?_; clear hs; rintro e w ⟨rfl, hs⟩))
  go_ret
  exact ⟨rfl, by rw [HRL.out] at hs; exact (hs.perm (List.Perm.swap _ _ _)).drop⟩
set_option maxRecDepth 100000 in
set_option maxHeartbeats 4000000 in
theorem copy_st (hs : St w0 X (pR g s B c :: L) w) (hm : s.mo ≠ 0) (hl : s.b.length ≤ 4194304) (hb : Reads L B (s.b.map v8)) :
  Calls Try.prog 25 #[.pointer (some ⟨g, 0, none⟩)] w fun e w' => ∃ g' r' B' c', e = .returned (.pointer (some ⟨g', 0, none⟩)) ∧ St w0 X (pR g' s B' c' :: pO r' B' c' s :: pR g s B c :: L) w' := by
 obtain ⟨RL, hRL⟩ : ∃ RL, RL = rcl s B c := ⟨_, rfl⟩
 obtain ⟨m, hm0⟩ : ∃ m, m = s.b.length := ⟨_, rfl⟩
 have CN : Hid (∀ (L : List At) (w : World), St w0 X (.blk g 67 RL :: L) w → Calls Try.prog 48 #[.pointer (some ⟨g, 0, none⟩)] w fun e w' => e = .returned (.bool false) ∧ St w0 X (.blk g 67 RL :: L) w') := Lib.hid (fun L w hs => by rw [hRL] at hs ⊢; exact none_st hs hm)
 have R4 := Lib.hid (show RL[4]? = some (.slice B m c) by rw [hRL, hm0]; rfl)
 have RLen := Lib.hid (show RL.length = 8 by rw [hRL]; rfl)
 have RO := Lib.hid (show ∀ v ∈ RL, v.oneCell' = true by rw [hRL]; exact rcl_one _ _ _)
 have HR2 : Hid (∀ B' c', RL.set 4 (.slice B' m c') = rcl s B' c') := Lib.hid (fun B' c' => by rw [hRL, hm0]; rfl)
 have HZ := Lib.hid (show (Try.prog.info? 67).bind (fun i => i.zero.map (·.cells.toList)) = some (rcl { f := ⟨false, false, 0⟩, mo := 0 } none 0) by kernel_rfl)
 have ZL := Lib.hid (show (rcl { f := ⟨false, false, 0⟩, mo := 0 } none 0).length = 8 from rfl)
 have HRL := Lib.hid hRL
 have HB := Lib.hid hb
 have HM := Lib.hid hm0
 have hml : m ≤ 4194304 := by omega
 simp only [pR, pO] at hs ⊢
 rw [← hRL] at hs
 clear hRL hm hb hm0 hl
 go_enter Try.func25, Try.ntmps25
 go_wp2_with (first | ((with_reducible refine Se.isL (o := ⟨some 8, _, _, _, _, _⟩) ?_); (refine Se.toL rfl (Se.ldw (o := ⟨some 8, _, _, _, _, _⟩) hs rfl rfl ((Reads.blk 0 rfl)) ((by rw [RLen.out]; kernel_rfl)) (by kernel_rfl) ?_))) | ((with_reducible refine Se.isL (o := ⟨some 3, _, _, _, _, _⟩) ?_); (refine Se.toL rfl (Se.al (o := ⟨some 3, _, _, _, _, _⟩) hs rfl (HZ.out) ?_); clear hs; rintro w g3 - hs)) | ((with_reducible refine Se.isL (o := ⟨none, Op.store 67 _ _, _, _, _, _⟩) ?_); (refine Se.toL rfl (Se.sow 0 hs rfl rfl rfl rfl (RO.out) ((by rw [RLen.out]; kernel_rfl)) ((by rw [RLen.out, ZL.out])) ?_); clear hs; intro w hs; try simp only [List.cons_append, List.nil_append, List.set_cons_zero] at hs)) | ((with_reducible refine Se.isL (o := ⟨some 12, _, _, _, _, _⟩) ?_); (refine Se.toL rfl (Se.ld (o := ⟨some 12, _, _, _, _, _⟩) hs rfl rfl (Cell.blk 1 rfl R4.out) (by kernel_rfl) ?_))) | ((with_reducible refine Se.isL (o := ⟨none, _, _, _, _, _⟩) ?_); ((first | refine Se.toL rfl (Se.so 1 (v := .int _ _) hs rfl rfl rfl rfl rfl (by kernel_rfl) (by rw [RLen.out]; decide) ?_) | refine Se.toL rfl (Se.so 1 (v := .bool _) hs rfl rfl rfl rfl rfl (by kernel_rfl) (by rw [RLen.out]; decide) ?_) | refine Se.toL rfl (Se.so 1 (v := .slice _ _ _) hs rfl rfl rfl rfl rfl (by kernel_rfl) (by rw [RLen.out]; decide) ?_) | refine Se.toL rfl (Se.so 1 (v := .pointer _) hs rfl rfl rfl rfl rfl (by kernel_rfl) (by rw [RLen.out]; decide) ?_) | refine Se.toL rfl (Se.so 1 (v := .string _) hs rfl rfl rfl rfl rfl (by kernel_rfl) (by rw [RLen.out]; decide) ?_) | refine Se.toL rfl (Se.so 1 (v := .map _) hs rfl rfl rfl rfl rfl (by kernel_rfl) (by rw [RLen.out]; decide) ?_) | refine Se.toL rfl (Se.so 1 (v := .func _ _ _) hs rfl rfl rfl rfl rfl (by kernel_rfl) (by rw [RLen.out]; decide) ?_) | refine Se.toL rfl (Se.so 1 (v := .nilFunc) hs rfl rfl rfl rfl rfl (by kernel_rfl) (by rw [RLen.out]; decide) ?_)); clear hs; intro w hs; try simp only [List.cons_append, List.nil_append, List.set_cons_zero, List.set_cons_succ] at hs)) | (go_at_call 48; refine Calls.mono (CN.out _ _ hs) ?_; clear hs; rintro e w ⟨rfl, hs⟩) | (go_at_call 49; refine Calls.mono (Pd.clone_st hs (HB.out.app [_, _]) HM.out (by omega)) ?_; clear hs; rintro e w ⟨r', B', c', rfl, hs⟩))
 go_ret
 refine ⟨g3, r', B', c', rfl, ?_⟩
 rw [HR2.out, HRL.out, HM.out] at hs
 exact hs.perm (List.Perm.swap _ _ _)
end Sr
end Go.Proofs.Ytdngfcmakjlamaa
/- Layer 36: the reference. No condition but Go's own limits. -/
namespace Go.Proofs.Ytdngfcmakjlamaa
open Go Go.RowKit
namespace Se
open Li (Blk Rd Fr)
variable {w0 w : World} {X : List Nat} {L : List At}
/-- A part of what is only read. -/
theorem St.rdSub {A A' : Option Addr} {xs ys : List Value} (h : St w0 X (.rd A xs :: L) w) (hr : Rd w A' ys) (hb : ys ≠ [] → xs ≠ [] ∧ ∀ a', A' = some a' → ∃ a, A = some a ∧ a.block = a'.block) : St w0 X (.rd A' ys :: L) w := by
 refine ⟨?_, h.nd, ?_, h.may, h.fr⟩
 ·intro a ha
  rcases List.mem_cons.1 ha with rfl | ha
  ·exact hr
  ·exact h.hold a (List.mem_cons_of_mem _ ha)
 ·intro a ha b hb'
  rcases List.mem_cons.1 ha with rfl | ha
  ·intro hy a' ha'
   obtain ⟨hx, hq⟩ := hb hy
   obtain ⟨a, hA, he⟩ := hq a' ha'
   have := h.sep (.rd A xs) List.mem_cons_self b hb' hx a hA
   rwa [he] at this
  ·exact h.sep a (List.mem_cons_of_mem _ ha) b hb'
end Se
namespace Sr
open Pd (Fm PDU meas dec framed pc iv fl fv)
open Se (St At Reads Cell)
open Li (v8 v8_one Rd Blk Fr)
open Bv (n8 n16 n32 n64)
variable {w0 w : World} {X : List Nat} {L : List At} {s s' : Rc} {g c : Nat} {B : Option Addr} {r : Option Nat}
attribute [local irreducible] Calls
theorem zR : (Try.prog.info? 57).bind (fun i => i.zero.map (·.cells.toList)) = some (rcl { f := ⟨false, false, 0⟩, mo := 0 } none 0) := by kernel_rfl
theorem bP0 (w : World) : (Instr.build 41 #[]).run Try.prog w = .ok (.agg (pc {} none 0 0 none 0 0).toArray) w := by kernel_rfl
set_option maxRecDepth 100000 in
set_option maxHeartbeats 4000000 in
theorem rvalid_st (hs : St w0 X L w) (f : Fm) (mo : Int) : Calls Try.prog 22 #[fv f, .int .i64 mo] w fun e w' => e = .returned (.bool (fits f mo)) ∧ St w0 X L w' := by
 obtain ⟨b, hb⟩ : ∃ b, framed f = b := ⟨_, rfl⟩
 obtain ⟨F, hF⟩ : ∃ F, F = fl f := ⟨_, rfl⟩
 have FL := Lib.hid (show F.length = 3 by rw [hF]; rfl)
 have CV : Hid (∀ (L' : List At) (w : World), St w0 X (L' ++ L) w → Calls Try.prog 14 #[.agg F.toArray] w fun e w' => e = .returned (.bool b) ∧ St w0 X (L' ++ L) w') := Lib.hid (fun L' w hs => by rw [hF, ← Pd.fv_eq, ← hb]; exact Pd.rFramed_st hs f)
 have HF := Lib.hid (show fits f mo = (b && decide (128 ≤ mo ∧ mo ≤ 4194304)) by rw [← hb]; rfl)
 rw [Pd.fv_eq, ← hF]
 clear hF hb
 cases b with
 | false =>
  go_enter Try.func22, Try.ntmps22
  go_wp2_with (first | ((with_reducible refine Se.isL (o := ⟨some 5, _, _, _, _, _⟩) ?_); (refine Se.toL rfl (Se.ldw (o := ⟨some 5, _, _, _, _, _⟩) hs rfl rfl ((Reads.blk 0 rfl)) ((by rw [FL.out]; kernel_rfl)) (by kernel_rfl) ?_))) | ((first | with_reducible refine Se.ab hs ?_ | with_reducible refine Se.abc hs ?_); clear hs; (first | (generalize w.heap.size = g2; intro w hs))) | (go_at_call 14; refine Calls.mono (CV.out [_] _ hs) ?_; clear hs; rintro e w ⟨rfl, hs⟩))
  go_ret
  exact ⟨by rw [HF.out]; rfl, hs.drop⟩
 | true =>
 have hc : (decide (128 ≤ mo) = true ∧ decide (mo ≤ 4194304) = true) ∨ (decide (128 ≤ mo) = true ∧ decide (mo ≤ 4194304) = false) ∨ decide (128 ≤ mo) = false := by
  simp only [decide_eq_true_eq, decide_eq_false_iff_not]; omega
 have HG : Hid (fits f mo = (decide (128 ≤ mo) && decide (mo ≤ 4194304))) := Lib.hid (by rw [HF.out]; simp)
 rcases hc with ⟨h1, h2⟩ | ⟨h1, h2⟩ | h1
 ·have HG2 : Hid (fits f mo = true) := Lib.hid (by rw [HG.out, h1, h2]; rfl)
  go_enter Try.func22, Try.ntmps22
  go_wp2_with (first | ((with_reducible refine Se.isL (o := ⟨some 5, _, _, _, _, _⟩) ?_); (refine Se.toL rfl (Se.ldw (o := ⟨some 5, _, _, _, _, _⟩) hs rfl rfl ((Reads.blk 0 rfl)) ((by rw [FL.out]; kernel_rfl)) (by kernel_rfl) ?_))) | ((first | with_reducible refine Se.ab hs ?_ | with_reducible refine Se.abc hs ?_); clear hs; (first | (generalize w.heap.size = g2; intro w hs))) | (go_at_call 14; refine Calls.mono (CV.out [_] _ hs) ?_; clear hs; rintro e w ⟨rfl, hs⟩))
  go_ret
  exact ⟨by rw [HG2.out]; rfl, hs.drop⟩
 ·have HG2 : Hid (fits f mo = false) := Lib.hid (by rw [HG.out, h2]; simp)
  go_enter Try.func22, Try.ntmps22
  go_wp2_with (first | ((with_reducible refine Se.isL (o := ⟨some 5, _, _, _, _, _⟩) ?_); (refine Se.toL rfl (Se.ldw (o := ⟨some 5, _, _, _, _, _⟩) hs rfl rfl ((Reads.blk 0 rfl)) ((by rw [FL.out]; kernel_rfl)) (by kernel_rfl) ?_))) | ((first | with_reducible refine Se.ab hs ?_ | with_reducible refine Se.abc hs ?_); clear hs; (first | (generalize w.heap.size = g2; intro w hs))) | (go_at_call 14; refine Calls.mono (CV.out [_] _ hs) ?_; clear hs; rintro e w ⟨rfl, hs⟩))
  go_ret
  exact ⟨by rw [HG2.out]; rfl, hs.drop⟩
 ·have HG2 : Hid (fits f mo = false) := Lib.hid (by rw [HG.out, h1]; simp)
  go_enter Try.func22, Try.ntmps22
  go_wp2_with (first | ((with_reducible refine Se.isL (o := ⟨some 5, _, _, _, _, _⟩) ?_); (refine Se.toL rfl (Se.ldw (o := ⟨some 5, _, _, _, _, _⟩) hs rfl rfl ((Reads.blk 0 rfl)) ((by rw [FL.out]; kernel_rfl)) (by kernel_rfl) ?_))) | ((first | with_reducible refine Se.ab hs ?_ | with_reducible refine Se.abc hs ?_); clear hs; (first | (generalize w.heap.size = g2; intro w hs))) | (go_at_call 14; refine Calls.mono (CV.out [_] _ hs) ?_; clear hs; rintro e w ⟨rfl, hs⟩))
  go_ret
  exact ⟨by rw [HG2.out]; rfl, hs.drop⟩
set_option maxRecDepth 100000 in
set_option maxHeartbeats 4000000 in
theorem radd_st (hs : St w0 X (.rd B (s.b.map v8) :: L) w) (hc : s.b.length ≤ c) (x : List (BitVec 8)) {A : Option Addr} {n cx : Nat} (hn : n = x.length) (hx : Reads L A (x.map v8)) (hl : s.b.length ≤ 4194304) (hnl : n ≤ 70368744177664) {e : Nat} (hr : addE s x = (s', e)) :
  Calls Try.prog 45 #[.agg (rcl s B c).toArray, .slice A n cx] w fun e' w' => ∃ RL' B' c', e' = .returned (.tuple #[.agg RL'.toArray, iv e]) ∧ Hid (RL' = rcl s' B' c') ∧ Hid (s'.b.length ≤ c') ∧ St w0 X (.rd B' (s'.b.map v8) :: L) w' := by
 obtain ⟨RL, hRL⟩ : ∃ RL, RL = rcl s B c := ⟨_, rfl⟩
 obtain ⟨m, hm0⟩ : ∃ m, m = s.b.length := ⟨_, rfl⟩
 obtain ⟨ee, hee⟩ : ∃ ee, ee = s.e := ⟨_, rfl⟩
 have R4 := Lib.hid (show RL[4]? = some (.slice B m c) by rw [hRL, hm0]; rfl)
 have R5 := Lib.hid (show RL[5]? = some (iv ee) by rw [hRL, hee]; rfl)
 have RLen := Lib.hid (show RL.length = 8 by rw [hRL]; rfl)
 have RO := Lib.hid (show ∀ v ∈ RL, v.oneCell' = true by rw [hRL]; exact rcl_one _ _ _)
 have HZ := Lib.hid zR
 have ZL := Lib.hid (show (rcl { f := ⟨false, false, 0⟩, mo := 0 } none 0).length = 8 from rfl)
 have HR2 : Hid (∀ B' c', RL.set 4 (.slice B' (m + n) c') = rcl { s with b := s.b ++ x } B' c') := Lib.hid (fun B' c' => by rw [hRL, hm0, hn]; simp [rcl])
 have HX := Lib.hid hx
 have HN := Lib.hid hn
 have HM := Lib.hid hm0
 have HRL := Lib.hid hRL
 have HEE := Lib.hid hee
 have HC := Lib.hid hc
 rw [← hRL]
 unfold addE at hr
 rw [← hee, ← hm0, ← hn] at hr
 rw [← hm0] at hl
 clear hRL hx hn hee hc hm0
 by_cases h0 : ee = 0
 ·rw [if_neg (by simpa using h0)] at hr
  subst h0
  by_cases h1 : 4194304 < m + n
  ·rw [if_pos h1] at hr
   cases hr
   have h1' : decide ((4194304 : Int) < (m : Int) + (n : Int)) = true := by simp; omega
   clear h1
   go_enter Try.func45, Try.ntmps45
   go_wp2_with (first | ((with_reducible refine Se.isL (o := ⟨some 4, _, _, _, _, _⟩) ?_); (refine Se.toL rfl (Se.al (o := ⟨some 4, _, _, _, _, _⟩) hs rfl (HZ.out) ?_); clear hs; rintro w g4 - hs)) | ((with_reducible refine Se.isL (o := ⟨some 7, _, _, _, _, _⟩) ?_); (refine Se.toL rfl (Se.ld (o := ⟨some 7, _, _, _, _, _⟩) hs rfl rfl (Cell.blk 1 rfl R5.out) (by kernel_rfl) ?_))) | ((with_reducible refine Se.isL (o := ⟨some 13, _, _, _, _, _⟩) ?_); (refine Se.toL rfl (Se.ld (o := ⟨some 13, _, _, _, _, _⟩) hs rfl rfl (Cell.blk 1 rfl R4.out) (by kernel_rfl) ?_))) | ((with_reducible refine Se.isL (o := ⟨some 19, _, _, _, _, _⟩) ?_); (refine Se.toL rfl (Se.ldw (o := ⟨some 19, _, _, _, _, _⟩) hs rfl rfl ((Reads.blk 1 rfl)) ((by rw [RLen.out]; kernel_rfl)) (by kernel_rfl) ?_))) | ((with_reducible refine Se.isL (o := ⟨none, _, _, _, _, _⟩) ?_); (refine Se.toL rfl (Se.sow 0 hs rfl rfl rfl rfl (RO.out) ((by rw [RLen.out]; kernel_rfl)) ((by rw [RLen.out, ZL.out])) ?_); clear hs; intro w hs; try simp only [List.cons_append, List.nil_append, List.set_cons_zero] at hs)) | ((first | with_reducible refine Se.ab hs ?_ | with_reducible refine Se.abc hs ?_); clear hs; (first | (generalize w.heap.size = g2; intro w hs))))
   refine Se.ret hs [.agg RL.toArray, iv _] rfl ⟨Se.resRow rfl (Reads.blk 0 rfl) (by kernel_rfl) (by rw [RLen.out] <;> kernel_rfl), rfl, trivial⟩ (by simp) rfl ?_
   exact ⟨RL, B, c, rfl, HRL, HC, hs.drop.drop⟩
  ·rw [if_neg h1] at hr
   cases hr
   have h1' : decide ((4194304 : Int) < (m : Int) + (n : Int)) = false := by simp; omega
   go_enter Try.func45, Try.ntmps45
   go_upto_region 5 with (first | ((with_reducible refine Se.isL (o := ⟨some 4, _, _, _, _, _⟩) ?_); (refine Se.toL rfl (Se.al (o := ⟨some 4, _, _, _, _, _⟩) hs rfl (HZ.out) ?_); clear hs; rintro w g4 - hs)) | ((with_reducible refine Se.isL (o := ⟨some 7, _, _, _, _, _⟩) ?_); (refine Se.toL rfl (Se.ld (o := ⟨some 7, _, _, _, _, _⟩) hs rfl rfl (Cell.blk 1 rfl R5.out) (by kernel_rfl) ?_))) | ((with_reducible refine Se.isL (o := ⟨some 13, _, _, _, _, _⟩) ?_); (refine Se.toL rfl (Se.ld (o := ⟨some 13, _, _, _, _, _⟩) hs rfl rfl (Cell.blk 1 rfl R4.out) (by kernel_rfl) ?_))) | ((first | with_reducible refine Se.ab hs ?_ | with_reducible refine Se.abc hs ?_); clear hs; (first | (generalize w.heap.size = g2; intro w hs))))
   replace hs := hs.nil_own 1 none
   go_upto_region 6 with (first | ((with_reducible refine Se.isL (o := ⟨some 21, _, _, _, _, _⟩) ?_); (refine Se.toL rfl (Se.ld (o := ⟨some 21, _, _, _, _, _⟩) hs rfl rfl (Cell.blk 2 rfl R4.out) (by kernel_rfl) ?_))) | ((with_reducible refine Se.isL (o := ⟨some 22, _, _, _, _, _⟩) ?_); (refine Se.toL rfl (Se.ap (o := ⟨some 22, _, _, _, _, _⟩) 0 hs rfl rfl rfl rfl ((Reads.rd 3 rfl)) Try.underlying24 Pd.u8i3 (rfl) (by decide) ((v8_one _)) ((by rw [List.length_map, HM.out, Nat.mul_one])) ((by omega)) ((by omega)) ?_); clear hs; rintro w r1 A1 c1 hs; try simp only [List.cons_append, List.nil_append, List.set_cons_zero] at hs; try simp only [Nat.zero_add, List.nil_append] at hs; try simp only [Nat.zero_add])) | ((with_reducible refine Se.isL (o := ⟨some 24, _, _, _, _, _⟩) ?_); (refine Se.toL rfl (Se.ap (o := ⟨some 24, _, _, _, _, _⟩) 0 hs rfl rfl rfl rfl ((HX.out.app [_, _, _, _])) Try.underlying24 Pd.u8i3 rfl (by decide) ((v8_one _)) ((by rw [List.length_map, HN.out, Nat.mul_one])) ((by omega)) ((by omega)) ?_); clear hs; rintro w r' B' c' hs; try simp only [List.cons_append, List.nil_append, List.set_cons_zero] at hs)) | ((with_reducible refine Se.isL (o := ⟨none, _, _, _, _, _⟩) ?_); ((first | refine Se.toL rfl (Se.so 2 (v := .int _ _) hs rfl rfl rfl rfl rfl (by kernel_rfl) (by rw [RLen.out]; decide) ?_) | refine Se.toL rfl (Se.so 2 (v := .bool _) hs rfl rfl rfl rfl rfl (by kernel_rfl) (by rw [RLen.out]; decide) ?_) | refine Se.toL rfl (Se.so 2 (v := .slice _ _ _) hs rfl rfl rfl rfl rfl (by kernel_rfl) (by rw [RLen.out]; decide) ?_) | refine Se.toL rfl (Se.so 2 (v := .pointer _) hs rfl rfl rfl rfl rfl (by kernel_rfl) (by rw [RLen.out]; decide) ?_) | refine Se.toL rfl (Se.so 2 (v := .string _) hs rfl rfl rfl rfl rfl (by kernel_rfl) (by rw [RLen.out]; decide) ?_) | refine Se.toL rfl (Se.so 2 (v := .map _) hs rfl rfl rfl rfl rfl (by kernel_rfl) (by rw [RLen.out]; decide) ?_) | refine Se.toL rfl (Se.so 2 (v := .func _ _ _) hs rfl rfl rfl rfl rfl (by kernel_rfl) (by rw [RLen.out]; decide) ?_) | refine Se.toL rfl (Se.so 2 (v := .nilFunc) hs rfl rfl rfl rfl rfl (by kernel_rfl) (by rw [RLen.out]; decide) ?_)); clear hs; intro w hs; try simp only [List.cons_append, List.nil_append, List.set_cons_zero, List.set_cons_succ] at hs)))
   have ho : m + n ≤ c' := by
    have := Pd.own_le hs List.mem_cons_self; omega
   simp only [Nat.zero_add, List.nil_append, ← List.map_append, HR2.out] at hs
   obtain ⟨RL2, hRL2⟩ : ∃ RL2, RL2 = rcl { s with b := s.b ++ x } B' c' := ⟨_, rfl⟩
   rw [← hRL2] at hs
   have R2L := Lib.hid (show RL2.length = 8 by rw [hRL2]; rfl)
   have R2O := Lib.hid (show ∀ v ∈ RL2, v.oneCell' = true by rw [hRL2]; exact rcl_one _ _ _)
   have HRL2 := Lib.hid hRL2
   have HO := Lib.hid ho
   clear hRL2 ho
   go_wp2_with (first | ((with_reducible refine Se.isL (o := ⟨some 26, _, _, _, _, _⟩) ?_); (refine Se.toL rfl (Se.ldw (o := ⟨some 26, _, _, _, _, _⟩) hs rfl rfl ((Reads.blk 2 rfl)) ((by rw [R2L.out]; kernel_rfl)) (by kernel_rfl) ?_))) | ((with_reducible refine Se.isL (o := ⟨none, _, _, _, _, _⟩) ?_); (refine Se.toL rfl (Se.sow 1 hs rfl rfl rfl rfl (R2O.out) ((by rw [R2L.out]; kernel_rfl)) ((by rw [R2L.out, ZL.out])) ?_); clear hs; intro w hs; try simp only [List.cons_append, List.nil_append, List.set_cons_zero, List.set_cons_succ] at hs)))
   refine Se.ret hs [.agg RL2.toArray, iv _] rfl ⟨Se.resRow rfl (Reads.blk 1 rfl) (by kernel_rfl) (by rw [R2L.out] <;> kernel_rfl), rfl, trivial⟩ (by simp) rfl ?_
   refine ⟨RL2, B', c', rfl, Lib.hid (by rw [HRL2.out, ← HEE.out]), Lib.hid (by simp only [List.length_append, ← HM.out, ← HN.out]; exact HO.out), ?_⟩
   have h3 := (hs.sub (L' := [.own 1 r' B' (m + n) c' ((s.b ++ x).map v8)] ++ L) (List.Sublist.cons_cons _ (.cons _ (.cons _ (.cons _ (List.Sublist.refl _)))))).own_rd
   exact h3
 ·rw [if_pos h0] at hr
  cases hr
  have e1 := (int_ne h0).1
  clear h0
  go_enter Try.func45, Try.ntmps45
  go_upto_region 2 with (first | ((with_reducible refine Se.isL (o := ⟨some 4, _, _, _, _, _⟩) ?_); (refine Se.toL rfl (Se.al (o := ⟨some 4, _, _, _, _, _⟩) hs rfl (HZ.out) ?_); clear hs; rintro w g4 - hs)) | ((with_reducible refine Se.isL (o := ⟨some 7, _, _, _, _, _⟩) ?_); (refine Se.toL rfl (Se.ld (o := ⟨some 7, _, _, _, _, _⟩) hs rfl rfl (Cell.blk 1 rfl R5.out) (by kernel_rfl) ?_))) | ((first | with_reducible refine Se.ab hs ?_ | with_reducible refine Se.abc hs ?_); clear hs; (first | (generalize w.heap.size = g2; intro w hs))))
  refine Ch.region' 5 (fun wx => Blk wx g2 RL 57) (fun | 3 => true | _ => false) (by kernel_rfl) (by decide +kernel) (hs.drew.hold (.blk g2 57 RL) (by simp)) ?_
  replace hs := hs.drew
  generalize w.drew = w at hs ⊢
  change Ch.CW _ _ _ _ _ [0, 1, 2, 3, 4] _ _
  iterate 3 ((first | (refine Ch.pure (v := ?_) (by rfl) (by rfl) (by rfl) (fun wx hS => ?_) ?_; rotate_left; (focus (go_simp; (first | done | with_reducible rfl)))) | refine Ch.pure (v := _) (by rfl) (by rfl) (by rfl) (fun wx hS => Se.xl rfl rfl (by rw [hS.cell]; exact R5.out) (by decide +kernel)) ?_ | refine Ch.pure (v := _) (by rfl) (by rfl) (by rfl) (fun wx hS => Se.xla rfl rfl (Li.Rd.of_blk hS) (by rw [RLen.out] <;> kernel_rfl) (by kernel_rfl)) ?_); (try simp only [Act.put, List.setIfInBounds_toArray, List.set_cons_zero, List.set_cons_succ]))
  refine Ch.noise (by rfl) (by rfl) (by rfl) (Se.sow 0 (vs := RL) hs rfl rfl rfl rfl RO.out (by rw [RLen.out]; kernel_rfl) (by rw [RLen.out, ZL.out]) ?_)
  clear hs
  intro w hs
  simp only [List.cons_append, List.nil_append, List.set_cons_zero] at hs
  refine ⟨hs.hold (.blk g2 57 RL) (by simp), ?_⟩
  (try simp only [Act.put, List.setIfInBounds_toArray, List.set_cons_zero, List.set_cons_succ])
  iterate 1 ((first | (refine Ch.pure (v := ?_) (by rfl) (by rfl) (by rfl) (fun wx hS => ?_) ?_; rotate_left; (focus (go_simp; (first | done | with_reducible rfl))))); (try simp only [Act.put, List.setIfInBounds_toArray, List.set_cons_zero, List.set_cons_succ]))
  refine Ch.done ?_
  try simp only [List.drop_succ_cons, List.drop_zero]
  go_wp2_with fail
  refine Se.ret hs [.agg RL.toArray, iv _] rfl ⟨Se.resRow rfl (Reads.blk 0 rfl) (by kernel_rfl) (by rw [RLen.out] <;> kernel_rfl), rfl, trivial⟩ (by simp) rfl ?_
  exact ⟨RL, B, c, rfl, HRL, HC, hs.drop.drop⟩
set_option maxRecDepth 100000 in
set_option maxHeartbeats 4000000 in
theorem rreframe_st (hs : St w0 X L w) (f : Fm) {e : Nat} (hr : refE s f = (s', e)) :
  Calls Try.prog 47 #[.agg (rcl s B c).toArray, fv f] w fun e' w' => ∃ RL', e' = .returned (.tuple #[.agg RL'.toArray, iv e]) ∧ Hid (RL' = rcl s' B c) ∧ St w0 X L w' := by
 obtain ⟨RL, hRL⟩ : ∃ RL, RL = rcl s B c := ⟨_, rfl⟩
 obtain ⟨F, hF⟩ : ∃ F, F = fl f := ⟨_, rfl⟩
 obtain ⟨b, hb⟩ : ∃ b, framed f = b := ⟨_, rfl⟩
 obtain ⟨ee, hee⟩ : ∃ ee, ee = s.e := ⟨_, rfl⟩
 have FL := Lib.hid (show F.length = 3 by rw [hF]; rfl)
 have FO := Lib.hid (show ∀ v ∈ F, v.oneCell' = true by rw [hF]; simp [fl, Value.oneCell'])
 have R5 := Lib.hid (show RL[5]? = some (iv ee) by rw [hRL, hee]; rfl)
 have RLen := Lib.hid (show RL.length = 8 by rw [hRL]; rfl)
 have RO := Lib.hid (show ∀ v ∈ RL, v.oneCell' = true by rw [hRL]; exact rcl_one _ _ _)
 have HZ := Lib.hid zR
 have ZL := Lib.hid (show (rcl { f := ⟨false, false, 0⟩, mo := 0 } none 0).length = 8 from rfl)
 have CV : Hid (∀ (L : List At) (w : World), St w0 X L w → Calls Try.prog 14 #[.agg F.toArray] w fun e w' => e = .returned (.bool b) ∧ St w0 X L w') := Lib.hid (fun L w hs => by rw [hF, ← Pd.fv_eq, ← hb]; exact Pd.rFramed_st hs f)
 have HR2 : Hid (RL.take 0 ++ F ++ RL.drop (0 + F.length) = rcl { s with f := f } B c) := Lib.hid (by rw [hRL, hF]; rfl)
 have HRL := Lib.hid hRL
 have HEE := Lib.hid hee
 unfold refE at hr
 rw [← hee, hb] at hr
 rw [Pd.fv_eq, ← hF, ← hRL]
 clear hRL hF hb hee
 by_cases h0 : ee = 0
 ·rw [if_neg (by simpa using h0)] at hr
  subst h0
  cases b with
  | false =>
   cases hr
   go_enter Try.func47, Try.ntmps47
   go_wp2_with (first | ((with_reducible refine Se.isL (o := ⟨some 4, _, _, _, _, _⟩) ?_); (refine Se.toL rfl (Se.al (o := ⟨some 4, _, _, _, _, _⟩) hs rfl (HZ.out) ?_); clear hs; rintro w g4 - hs)) | ((with_reducible refine Se.isL (o := ⟨some 7, _, _, _, _, _⟩) ?_); (refine Se.toL rfl (Se.ld (o := ⟨some 7, _, _, _, _, _⟩) hs rfl rfl (Cell.blk 2 rfl R5.out) (by kernel_rfl) ?_))) | ((with_reducible refine Se.isL (o := ⟨some 12, _, _, _, _, _⟩) ?_); (refine Se.toL rfl (Se.ldw (o := ⟨some 12, _, _, _, _, _⟩) hs rfl rfl ((Reads.blk 1 rfl)) ((by rw [FL.out]; kernel_rfl)) (by kernel_rfl) ?_))) | ((with_reducible refine Se.isL (o := ⟨some 15, _, _, _, _, _⟩) ?_); (refine Se.toL rfl (Se.ldw (o := ⟨some 15, _, _, _, _, _⟩) hs rfl rfl ((Reads.blk 2 rfl)) ((by rw [RLen.out]; kernel_rfl)) (by kernel_rfl) ?_))) | ((with_reducible refine Se.isL (o := ⟨none, _, _, _, _, _⟩) ?_); (refine Se.toL rfl (Se.sow 0 hs rfl rfl rfl rfl (RO.out) ((by rw [RLen.out]; kernel_rfl)) ((by rw [RLen.out, ZL.out])) ?_); clear hs; intro w hs; try simp only [List.cons_append, List.nil_append, List.set_cons_zero] at hs)) | ((first | with_reducible refine Se.ab hs ?_ | with_reducible refine Se.abc hs ?_); clear hs; (first | ((fail_if_success (have _q := g2)); generalize w.heap.size = g2; intro w hs) | (generalize w.heap.size = g3; intro w hs))) | (go_at_call 14; refine Calls.mono (CV.out _ _ hs) ?_; clear hs; rintro e w ⟨rfl, hs⟩))
   refine Se.ret hs [.agg RL.toArray, iv _] rfl ⟨Se.resRow rfl (Reads.blk 0 rfl) (by kernel_rfl) (by rw [RLen.out] <;> kernel_rfl), rfl, trivial⟩ (by simp) rfl ?_
   exact ⟨RL, rfl, HRL, hs.drop.drop.drop⟩
  | true =>
   cases hr
   go_enter Try.func47, Try.ntmps47
   go_upto_region 6 with (first | ((with_reducible refine Se.isL (o := ⟨some 4, _, _, _, _, _⟩) ?_); (refine Se.toL rfl (Se.al (o := ⟨some 4, _, _, _, _, _⟩) hs rfl (HZ.out) ?_); clear hs; rintro w g4 - hs)) | ((with_reducible refine Se.isL (o := ⟨some 7, _, _, _, _, _⟩) ?_); (refine Se.toL rfl (Se.ld (o := ⟨some 7, _, _, _, _, _⟩) hs rfl rfl (Cell.blk 2 rfl R5.out) (by kernel_rfl) ?_))) | ((with_reducible refine Se.isL (o := ⟨some 12, _, _, _, _, _⟩) ?_); (refine Se.toL rfl (Se.ldw (o := ⟨some 12, _, _, _, _, _⟩) hs rfl rfl ((Reads.blk 1 rfl)) ((by rw [FL.out]; kernel_rfl)) (by kernel_rfl) ?_))) | ((with_reducible refine Se.isL (o := ⟨some 16, _, _, _, _, _⟩) ?_); (refine Se.toL rfl (Se.ldw (o := ⟨some 16, _, _, _, _, _⟩) hs rfl rfl ((Reads.blk 1 rfl)) ((by rw [FL.out]; kernel_rfl)) (by kernel_rfl) ?_))) | ((first | with_reducible refine Se.ab hs ?_ | with_reducible refine Se.abc hs ?_); clear hs; (first | ((fail_if_success (have _q := g2)); generalize w.heap.size = g2; intro w hs) | (generalize w.heap.size = g3; intro w hs))) | (go_at_call 14; refine Calls.mono (CV.out _ _ hs) ?_; clear hs; rintro e w ⟨rfl, hs⟩) | (with_reducible refine Se.isL (o := ⟨none, _, _, _, _, _⟩) ?_; refine Se.toL rfl (Se.soa 2 hs rfl rfl rfl rfl FO.out (by rw [FL.out]; kernel_rfl) (by rw [RLen.out, FL.out]; decide) ?_); clear hs; intro w hs; simp only [List.set_cons_succ, List.set_cons_zero] at hs))
   rw [HR2.out] at hs
   obtain ⟨RL2, hRL2⟩ : ∃ RL2, RL2 = rcl { s with f := f } B c := ⟨_, rfl⟩
   rw [← hRL2] at hs
   have R2L := Lib.hid (show RL2.length = 8 by rw [hRL2]; rfl)
   have R2O := Lib.hid (show ∀ v ∈ RL2, v.oneCell' = true by rw [hRL2]; exact rcl_one _ _ _)
   have HRL2 := Lib.hid hRL2
   clear hRL2
   go_wp2_with (first | ((with_reducible refine Se.isL (o := ⟨some 18, _, _, _, _, _⟩) ?_); (refine Se.toL rfl (Se.ldw (o := ⟨some 18, _, _, _, _, _⟩) hs rfl rfl ((Reads.blk 2 rfl)) ((by rw [R2L.out]; kernel_rfl)) (by kernel_rfl) ?_))) | ((with_reducible refine Se.isL (o := ⟨none, _, _, _, _, _⟩) ?_); (refine Se.toL rfl (Se.sow 0 hs rfl rfl rfl rfl (R2O.out) ((by rw [R2L.out]; kernel_rfl)) ((by rw [R2L.out, ZL.out])) ?_); clear hs; intro w hs; try simp only [List.cons_append, List.nil_append, List.set_cons_zero] at hs)))
   refine Se.ret hs [.agg RL2.toArray, iv _] rfl ⟨Se.resRow rfl (Reads.blk 0 rfl) (by kernel_rfl) (by rw [R2L.out] <;> kernel_rfl), rfl, trivial⟩ (by simp) rfl ?_
   exact ⟨RL2, rfl, Lib.hid (by rw [HRL2.out, ← HEE.out]), hs.drop.drop.drop⟩
 ·rw [if_pos h0] at hr
  cases hr
  have e1 := (int_ne h0).1
  clear h0
  go_enter Try.func47, Try.ntmps47
  go_upto_region 2 with (first | ((with_reducible refine Se.isL (o := ⟨some 4, _, _, _, _, _⟩) ?_); (refine Se.toL rfl (Se.al (o := ⟨some 4, _, _, _, _, _⟩) hs rfl (HZ.out) ?_); clear hs; rintro w g4 - hs)) | ((with_reducible refine Se.isL (o := ⟨some 7, _, _, _, _, _⟩) ?_); (refine Se.toL rfl (Se.ld (o := ⟨some 7, _, _, _, _, _⟩) hs rfl rfl (Cell.blk 2 rfl R5.out) (by kernel_rfl) ?_))) | ((first | with_reducible refine Se.ab hs ?_ | with_reducible refine Se.abc hs ?_); clear hs; (first | ((fail_if_success (have _q := g2)); generalize w.heap.size = g2; intro w hs) | (generalize w.heap.size = g3; intro w hs))))
  refine Ch.region' 5 (fun wx => Blk wx g2 RL 57) (fun | 3 => true | _ => false) (by kernel_rfl) (by decide +kernel) (hs.drew.hold (.blk g2 57 RL) (by simp)) ?_
  replace hs := hs.drew
  generalize w.drew = w at hs ⊢
  change Ch.CW _ _ _ _ _ [0, 1, 2, 3, 4] _ _
  iterate 3 ((first | (refine Ch.pure (v := ?_) (by rfl) (by rfl) (by rfl) (fun wx hS => ?_) ?_; rotate_left; (focus (go_simp; (first | done | with_reducible rfl)))) | refine Ch.pure (v := _) (by rfl) (by rfl) (by rfl) (fun wx hS => Se.xl rfl rfl (by rw [hS.cell]; exact R5.out) (by decide +kernel)) ?_ | refine Ch.pure (v := _) (by rfl) (by rfl) (by rfl) (fun wx hS => Se.xla rfl rfl (Li.Rd.of_blk hS) (by rw [RLen.out] <;> kernel_rfl) (by kernel_rfl)) ?_); (try simp only [Act.put, List.setIfInBounds_toArray, List.set_cons_zero, List.set_cons_succ]))
  refine Ch.noise (by rfl) (by rfl) (by rfl) (Se.sow 0 (vs := RL) hs rfl rfl rfl rfl RO.out (by rw [RLen.out]; kernel_rfl) (by rw [RLen.out, ZL.out]) ?_)
  clear hs
  intro w hs
  simp only [List.cons_append, List.nil_append, List.set_cons_zero] at hs
  refine ⟨hs.hold (.blk g2 57 RL) (by simp), ?_⟩
  (try simp only [Act.put, List.setIfInBounds_toArray, List.set_cons_zero, List.set_cons_succ])
  iterate 1 ((first | (refine Ch.pure (v := ?_) (by rfl) (by rfl) (by rfl) (fun wx hS => ?_) ?_; rotate_left; (focus (go_simp; (first | done | with_reducible rfl))))); (try simp only [Act.put, List.setIfInBounds_toArray, List.set_cons_zero, List.set_cons_succ]))
  refine Ch.done ?_
  try simp only [List.drop_succ_cons, List.drop_zero]
  go_wp2_with fail
  refine Se.ret hs [.agg RL.toArray, iv _] rfl ⟨Se.resRow rfl (Reads.blk 0 rfl) (by kernel_rfl) (by rw [RLen.out] <;> kernel_rfl), rfl, trivial⟩ (by simp) rfl ?_
  exact ⟨RL, rfl, HRL, hs.drop.drop.drop⟩
end Sr
end Go.Proofs.Ytdngfcmakjlamaa


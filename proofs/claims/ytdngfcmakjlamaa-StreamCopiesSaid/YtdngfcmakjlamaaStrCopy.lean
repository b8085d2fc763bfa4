/- Layer 36: the law StreamCopies, the walk. No condition but Go's own limits. Printed by wip/gen_strcopy.py. -/
import Derived.Test.YtdngfcmakjlamaaStrPlay
set_option linter.unusedSimpArgs false
set_option linter.unusedVariables false
namespace Go.Proofs.Ytdngfcmakjlamaa
open Go Go.RowKit
namespace Sr
open Pd (Fm PDU meas dec framed pc iv fl fv encE)
open Se (St At Reads Cell)
open Li (v8 v8_one Rd Blk Fr)
open Bv (n8 n16 n32 n64)
variable {w0 w : World} {X : List Nat} {L : List At} {s s' : Rc} {g c c2 : Nat} {B B2 : Option Addr} {r : Option Nat}
attribute [local irreducible] Calls
/-- The greater of two lengths. -/
def mxN (a b : Nat) : Nat := if b > a then b else a
theorem mxN_lt {a b i : Nat} : i < mxN a b ↔ i < a ∨ i < b := by unfold mxN; split <;> omega
theorem max_nat (ats : Array TypeId) (ty : TypeId) (a b : Nat) : Builtin.max_ ats ty #[.int .i64 (a : Int), .int .i64 (b : Int)] = pure (.int .i64 ((mxN a b : Nat) : Int)) := by
 unfold mxN
 simp only [Builtin.max_, List.foldlM_cons, List.foldlM_nil, Builtin.max2]
 by_cases h : b > a
 ·rw [if_pos h, if_pos (by omega)]; rfl
 ·rw [if_neg h, if_neg (by omega)]; rfl
attribute [local irreducible] mxN
attribute [local go_sem] max_nat
/-- A step of a list. -/
theorem SS.step {A : Option Addr} {R : List (List Value)} {xs : List Stp} (hA : Reads L A R.flatten) (hS : SS L R xs) {i : Nat} (hi : i < xs.length) {w1 : World} (hw : ∀ a ∈ L, a.holds w1) : ∃ (PC : List Value) (ga oa : Nat), A = some ⟨ga, oa, none⟩ ∧ Hid (PC.length = 5) ∧ Hid (Reads L (some ⟨ga, oa + i * 5, none⟩) PC) ∧
  Hid (∀ (w0 : World) (X : List Nat) (M L0 : List At) (s : Rc) (g : Nat) (B : Option Addr) (c : Nat) (r : Option Nat) (B2 : Option Addr) (c2 t k : Nat) (RL : List Value) (w : World), Hid (RL = rcl s B2 c2) → Hid (s.b.length ≤ c2) → Hid (okD s t k) → t + xs[i].x.length ≤ 4194304 → k ≤ 100000 → (∀ a ∈ L, a ∈ M ++ L0) → St w0 X (M ++ pR g s B c :: pO r B c s :: pM B2 s :: L0) w → Calls Try.prog 23 #[.pointer (some ⟨g, 0, none⟩), .agg RL.toArray, .agg PC.toArray] w fun e' w' => ∃ s' RL' r' B' c' B2' c2', e' = .returned (.tuple #[.agg RL'.toArray, .bool true]) ∧ Hid (okD s' (t + xs[i].x.length) (k + 1)) ∧ Hid (RL' = rcl s' B2' c2') ∧ Hid (s'.b.length ≤ c2') ∧ St w0 X (M ++ pR g s' B' c' :: pO r' B' c' s' :: pM B2' s' :: L0) w') := by
 obtain ⟨PC, XA, xc, h1, h2, h3⟩ := hS.row hi
 obtain ⟨ga, oa, hg, _, _⟩ := (hA w1 hw).cells (hS.ne hi)
 refine ⟨PC, ga, oa, hg, Lib.hid (by rw [h1]; rfl), Lib.hid (h3 ga oa (hg ▸ hA)), Lib.hid ?_⟩
 intro w0 X M L0 s g B c r B2 c2 t k RL w q1 q2 q3 q4 q5 q6 hs
 exact do_m M hs q1.out q2.out xs[i] h1 (h2.mono q6) q3.out q4 q5
set_option maxRecDepth 100000 in
set_option maxRecDepth 100000 in
set_option maxHeartbeats 4000000 in
theorem copies_st (hs : St w0 X L w) (f : Fm) {A1 A2 A3 : Option Addr} {R1 R2 R3 : List (List Value)} {x1 x2 x3 : List Stp} {n1 n2 n3 k1 k2 k3 : Nat} (hn1 : n1 = x1.length) (hn2 : n2 = x2.length) (hn3 : n3 = x3.length) (hA1 : Reads L A1 R1.flatten) (hA2 : Reads L A2 R2.flatten) (hA3 : Reads L A3 R3.flatten) (hS1 : SS L R1 x1) (hS2 : SS L R2 x2) (hS3 : SS L R3 x3)
  (hl1 : ∀ p ∈ x1, p.x.length ≤ 140737488351232) (hl2 : ∀ p ∈ x2, p.x.length ≤ 140737488351232) (hl3 : ∀ p ∈ x3, p.x.length ≤ 140737488351232) (hb1 : n1 ≤ 140737488351232) (hb2 : n2 ≤ 140737488351232) (hb3 : n3 ≤ 140737488351232) :
  Calls Try.prog 7 #[fv f, .slice A1 n1 k1, .slice A2 n2 k2, .slice A3 n3 k3] w fun e' w' => e' = .returned (.bool true) ∧ St w0 X L w' := by
 obtain ⟨F, hF⟩ : ∃ F, F = fl f := ⟨_, rfl⟩
 have FL := Lib.hid (show F.length = 3 by rw [hF]; rfl)
 have CK : Hid (∀ (M : List At) (w : World), St w0 X (M ++ L) w → Calls Try.prog 9 #[] w fun e' w' => e' = .returned (.bool true) ∧ St w0 X (M ++ L) w') := Lib.hid (fun M w hs => known_st hs)
 have CFW : ∀ {A : Option Addr} {R : List (List Value)} {xs : List Stp} {n k : Nat} {b : Bool} (hn : n = xs.length) (hA : Reads L A R.flatten) (hS : SS L R xs) (hl : ∀ p ∈ xs, p.x.length ≤ 140737488351232) (hb : n ≤ 140737488351232) (hfb : fewB xs = b) (M : List At) (w : World), St w0 X (M ++ L) w → Calls Try.prog 21 #[.slice A n k] w fun e' w' => e' = .returned (.bool b) ∧ St w0 X (M ++ L) w' := by
  intro A R xs n k b hn hA hS hl hb hfb M w hs
  refine (few_st hs hn (hA.app M) (hS.mono (fun _ h => List.mem_append.2 (.inr h))) hl hb).mono ?_
  rintro e' w' ⟨h1, h2⟩
  exact ⟨by rw [← hfb]; exact h1, h2⟩
 obtain ⟨b1, hf1⟩ : ∃ b, fewB x1 = b := ⟨_, rfl⟩
 obtain ⟨b2, hf2⟩ : ∃ b, fewB x2 = b := ⟨_, rfl⟩
 obtain ⟨b3, hf3⟩ : ∃ b, fewB x3 = b := ⟨_, rfl⟩
 have CF1 := Lib.hid (CFW (k := k1) hn1 hA1 hS1 hl1 hb1 hf1)
 have CF2 := Lib.hid (CFW (k := k2) hn2 hA2 hS2 hl2 hb2 hf2)
 have CF3 := Lib.hid (CFW (k := k3) hn3 hA3 hS3 hl3 hb3 hf3)
 have HF1 := Lib.hid hf1
 have HF2 := Lib.hid hf2
 have HF3 := Lib.hid hf3
 have HA1 := Lib.hid hA1
 have HA2 := Lib.hid hA2
 have HA3 := Lib.hid hA3
 have HS1 := Lib.hid hS1
 have HS2 := Lib.hid hS2
 have HS3 := Lib.hid hS3
 have HN1 := Lib.hid hn1
 have HN2 := Lib.hid hn2
 have HN3 := Lib.hid hn3
 rw [Pd.fv_eq, ← hF]
 clear CFW hf1 hf2 hf3 hA1 hA2 hA3 hS1 hS2 hS3 hn1 hn2 hn3 hl1 hl2 hl3 hb1 hb2 hb3
 by_cases hf : fits f 2000 = true
 rotate_left
 ·have hf' : fits f 2000 = false := by simpa using hf
  have CN : Hid (∀ (M : List At) (w : World), St w0 X M w → Calls Try.prog 10 #[.agg F.toArray, .int .i64 2000] w fun e w' => e = .returned (.tuple #[.pointer none, iv 2]) ∧ St w0 X M w') := Lib.hid (fun M w hs => by rw [hF, ← Pd.fv_eq]; exact new_no hs f 2000 hf')
  clear hf hf' hF
  go_enter Try.func7, Try.ntmps7
  go_wp2_with (first | ((with_reducible refine Se.isL (o := ⟨some 18, _, _, _, _, _⟩) ?_); (refine Se.toL rfl (Se.ldw (o := ⟨some 18, _, _, _, _, _⟩) hs rfl rfl ((Reads.blk 0 rfl)) ((by rw [FL.out]; kernel_rfl)) (by kernel_rfl) ?_))) | ((first | with_reducible refine Se.ab hs ?_ | with_reducible refine Se.abc hs ?_); clear hs; (first | (generalize w.heap.size = g4; intro w hs))) | (go_at_call 10; refine Calls.mono (CN.out _ _ hs) ?_; clear hs; rintro e w ⟨rfl, hs⟩) | (go_at_call 9; refine Calls.mono (CK.out [_] _ hs) ?_; clear hs; rintro e w ⟨rfl, hs⟩))
  go_ret
  exact ⟨rfl, hs.drop⟩
 obtain ⟨R0, hR0⟩ : ∃ R0, R0 = rcl { f := f, mo := 2000 } none 0 := ⟨_, rfl⟩
 have CN : Hid (∀ (M : List At) (w : World), St w0 X M w → Calls Try.prog 10 #[.agg F.toArray, .int .i64 2000] w fun e w' => ∃ g, e = .returned (.tuple #[.pointer (some ⟨g, 0, none⟩), iv 0]) ∧ St w0 X (pR g { f := f, mo := 2000 } none 0 :: pO none none 0 { f := f, mo := 2000 } :: M) w') := Lib.hid (fun M w hs => by rw [hF, ← Pd.fv_eq]; exact new_yes hs f 2000 hf)
 have BR : Hid (∀ w : World, (Instr.build 57 #[(0, .agg F.toArray), (1, .int .i64 2000)]).run Try.prog w = .ok (.agg R0.toArray) w) := Lib.hid (fun w => by rw [hF, hR0]; exact brx f 2000 w)
 have R0L := Lib.hid (show R0.length = 8 by rw [hR0]; rfl)
 have R0O := Lib.hid (show ∀ v ∈ R0, v.oneCell' = true by rw [hR0]; exact rcl_one _ _ _)
 have HR0 := Lib.hid hR0
 clear hf hF hR0
 cases b1 with
 | false =>
  go_enter Try.func7, Try.ntmps7
  go_wp2_with (first | ((with_reducible refine Se.isL (o := ⟨some 18, _, _, _, _, _⟩) ?_); (refine Se.toL rfl (Se.ldw (o := ⟨some 18, _, _, _, _, _⟩) hs rfl rfl ((Reads.blk 0 rfl)) ((by rw [FL.out]; kernel_rfl)) (by kernel_rfl) ?_))) | ((first | with_reducible refine Se.ab hs ?_ | with_reducible refine Se.abc hs ?_); clear hs; (first | (generalize w.heap.size = g4; intro w hs))) | (go_at_call 10; refine Calls.mono (CN.out _ _ hs) ?_; clear hs; rintro e w ⟨g, rfl, hs⟩) | (go_at_call 21; refine Calls.mono (CF1.out [_, _, _] _ hs) ?_; clear hs; rintro e w ⟨rfl, hs⟩) | (go_at_call 9; refine Calls.mono (CK.out [_, _, _] _ hs) ?_; clear hs; rintro e w ⟨rfl, hs⟩))
  go_ret
  exact ⟨rfl, hs.drop.drop.drop⟩
 | true =>
 cases b2 with
 | false =>
  go_enter Try.func7, Try.ntmps7
  go_wp2_with (first | ((with_reducible refine Se.isL (o := ⟨some 18, _, _, _, _, _⟩) ?_); (refine Se.toL rfl (Se.ldw (o := ⟨some 18, _, _, _, _, _⟩) hs rfl rfl ((Reads.blk 0 rfl)) ((by rw [FL.out]; kernel_rfl)) (by kernel_rfl) ?_))) | ((first | with_reducible refine Se.ab hs ?_ | with_reducible refine Se.abc hs ?_); clear hs; (first | (generalize w.heap.size = g4; intro w hs))) | (go_at_call 10; refine Calls.mono (CN.out _ _ hs) ?_; clear hs; rintro e w ⟨g, rfl, hs⟩) | (go_at_call 21; refine Calls.mono (CF1.out [_, _, _] _ hs) ?_; clear hs; rintro e w ⟨rfl, hs⟩) | (go_at_call 21; refine Calls.mono (CF2.out [_, _, _] _ hs) ?_; clear hs; rintro e w ⟨rfl, hs⟩) | (go_at_call 9; refine Calls.mono (CK.out [_, _, _] _ hs) ?_; clear hs; rintro e w ⟨rfl, hs⟩))
  go_ret
  exact ⟨rfl, hs.drop.drop.drop⟩
 | true =>
 cases b3 with
 | false =>
  go_enter Try.func7, Try.ntmps7
  go_wp2_with (first | ((with_reducible refine Se.isL (o := ⟨some 18, _, _, _, _, _⟩) ?_); (refine Se.toL rfl (Se.ldw (o := ⟨some 18, _, _, _, _, _⟩) hs rfl rfl ((Reads.blk 0 rfl)) ((by rw [FL.out]; kernel_rfl)) (by kernel_rfl) ?_))) | ((first | with_reducible refine Se.ab hs ?_ | with_reducible refine Se.abc hs ?_); clear hs; (first | (generalize w.heap.size = g4; intro w hs))) | (go_at_call 10; refine Calls.mono (CN.out _ _ hs) ?_; clear hs; rintro e w ⟨g, rfl, hs⟩) | (go_at_call 21; refine Calls.mono (CF1.out [_, _, _] _ hs) ?_; clear hs; rintro e w ⟨rfl, hs⟩) | (go_at_call 21; refine Calls.mono (CF2.out [_, _, _] _ hs) ?_; clear hs; rintro e w ⟨rfl, hs⟩) | (go_at_call 21; refine Calls.mono (CF3.out [_, _, _] _ hs) ?_; clear hs; rintro e w ⟨rfl, hs⟩) | (go_at_call 9; refine Calls.mono (CK.out [_, _, _] _ hs) ?_; clear hs; rintro e w ⟨rfl, hs⟩))
  go_ret
  exact ⟨rfl, hs.drop.drop.drop⟩
 | true =>
 have HB1 := Lib.hid (fewB_out HF1.out)
 have HB2 := Lib.hid (fewB_out HF2.out)
 have HB3 := Lib.hid (fewB_out HF3.out)
 have hm1 : n1 ≤ 60 := by rw [HN1.out]; exact HB1.out.1
 have hm2 : n2 ≤ 60 := by rw [HN2.out]; exact HB2.out.1
 have hm3 : n3 ≤ 60 := by rw [HN3.out]; exact HB3.out.1
 go_enter Try.func7, Try.ntmps7
 go_upto_region 6 with (first | ((with_reducible refine Se.isL (o := ⟨some 18, _, _, _, _, _⟩) ?_); (refine Se.toL rfl (Se.ldw (o := ⟨some 18, _, _, _, _, _⟩) hs rfl rfl ((Reads.blk 0 rfl)) ((by rw [FL.out]; kernel_rfl)) (by kernel_rfl) ?_))) | ((first | with_reducible refine Se.ab hs ?_ | with_reducible refine Se.abc hs ?_); clear hs; (first | (generalize w.heap.size = g4; intro w hs))) | (go_at_call 10; refine Calls.mono (CN.out _ _ hs) ?_; clear hs; rintro e w ⟨g, rfl, hs⟩) | (go_at_call 21; refine Calls.mono (CF1.out [_, _, _] _ hs) ?_; clear hs; rintro e w ⟨rfl, hs⟩) | (go_at_call 21; refine Calls.mono (CF2.out [_, _, _] _ hs) ?_; clear hs; rintro e w ⟨rfl, hs⟩) | (go_at_call 21; refine Calls.mono (CF3.out [_, _, _] _ hs) ?_; clear hs; rintro e w ⟨rfl, hs⟩))
 clear CF1 CF2 CF3 HF1 HF2 HF3 CN
 simp only [List.cons_append, List.nil_append] at hs
 replace hs := hs.addRd (A := none) (xs := []) (.inl rfl) (by intro b _ hx; exact absurd rfl hx)
 go_upto_region 7 with (first | ((with_reducible refine Se.isL (o := ⟨some 42, _, _, _, _, _⟩) ?_); (refine Se.toL rfl (Se.ldw (o := ⟨some 42, _, _, _, _, _⟩) hs rfl rfl ((Reads.blk 3 rfl)) ((by rw [FL.out]; kernel_rfl)) (by kernel_rfl) ?_))) | ((with_reducible refine Se.isL (o := ⟨some 43, _, _, _, _, _⟩) ?_); (refine Se.toL rfl (Se.bd (o := ⟨some 43, _, _, _, _, _⟩) rfl rfl (BR.out _) ?_))) | ((with_reducible refine Se.isL (o := ⟨some 11, _, _, _, _, _⟩) ?_); (refine Se.toL rfl (Se.al (o := ⟨some 11, _, _, _, _, _⟩) hs rfl (zR) ?_); clear hs; rintro w g11 - hs)) | ((with_reducible refine Se.isL (o := ⟨none, _, _, _, _, _⟩) ?_); (refine Se.toL rfl (Se.sow 0 hs rfl rfl rfl rfl (R0O.out) ((by rw [R0L.out]; kernel_rfl)) ((by rw [R0L.out]; rfl)) ?_); clear hs; intro w hs; try simp only [List.cons_append, List.nil_append, List.set_cons_zero] at hs)))
 replace hs := hs.pull 1 rfl
 replace hs := hs.pull 3 rfl
 replace hs := hs.pull 3 rfl
 replace hs := hs.pull 4 rfl
 replace hs := hs.pull 4 rfl
 simp only [List.eraseIdx_cons_succ, List.eraseIdx_cons_zero] at hs
 clear BR
 go_wp2_with fail
 go_loopg [12, 13] n1 (fun gh s12 s13 wr => ∃ (i : Nat) (s : Rc) (RL : List Value) (r : Option Nat) (B : Option Addr) (c : Nat) (B2 : Option Addr) (c2 : Nat), gh = n1 - i ∧ i ≤ n1 ∧ s13 = .int .i64 (i : Int) ∧ s12 = .bool true ∧ Hid (okD s (tot (x1.take i)) i) ∧ Hid (RL = rcl s B2 c2) ∧ Hid (s.b.length ≤ c2) ∧ St w0 X (.blk g11 57 RL :: .blk g4 23 F :: pR g s B c :: pO r B c s :: pM B2 s :: L) wr)
 case atStart => exact ⟨0, { f := f, mo := 2000 }, R0, none, none, 0, none, 0, rfl, Nat.zero_le _, rfl, rfl, Lib.hid ⟨by simp, Nat.le_refl _, Nat.le_refl _⟩, HR0, Lib.hid (Nat.le_refl _), hs⟩
 case round =>
  clear hs HR0 R0L R0O
  rename World => w
  obtain ⟨i, s, RL, r, B, c, B2, c2, rfl, hi, rfl, rfl, HO, HRL, HC, hs⟩ := hrel
  have RLL := Lib.hid (show RL.length = 8 by rw [HRL.out]; rfl)
  by_cases hlt : i < n1
  ·have hlt' : (i : Int) < (n1 : Int) := by omega
   have hlt2 : decide (i < n1) = true := by simpa using hlt
   have hil : i < x1.length := by have := HN1.out; omega
   obtain ⟨PC, ga, oa, rfl, PCL, RP, CDO⟩ := HS1.out.step HA1.out hil (fun a ha => hs.hold a (by simp [ha]))
   have HT := Lib.hid (tot_snoc x1 i hil)
   have HTL := Lib.hid (Nat.le_trans (tot_le x1 (i + 1)) HB1.out.2)
   have CD : Hid (∀ (w : World), St w0 X (.blk g11 57 RL :: .blk g4 23 F :: pR g s B c :: pO r B c s :: pM B2 s :: L) w → Calls Try.prog 23 #[.pointer (some ⟨g, 0, none⟩), .agg RL.toArray, .agg PC.toArray] w fun e' w' => ∃ s' RL' r' B' c' B2' c2', e' = .returned (.tuple #[.agg RL'.toArray, .bool true]) ∧ Hid (okD s' (tot (x1.take (i + 1))) (i + 1)) ∧ Hid (RL' = rcl s' B2' c2') ∧ Hid (s'.b.length ≤ c2') ∧ St w0 X ([.blk g11 57 RL, .blk g4 23 F] ++ pR g s' B' c' :: pO r' B' c' s' :: pM B2' s' :: L) w') := Lib.hid (fun w hs => by
    rw [HT.out]
    exact CDO.out w0 X [_, _] L s g B c r B2 c2 _ _ RL w HRL HC HO (by rw [← HT.out]; have := HTL.out; omega) (by omega) (fun a ha => by simp [ha]) hs)
   clear CDO HT hil
   go_upto_region 11 with (fail)
   refine Ch.region' 12 (fun wx => Rd wx (some ⟨ga, oa + i * 5, none⟩) PC) (fun | 1 => true | 6 => true | 10 => true | _ => false) (by kernel_rfl) (by decide +kernel) (RP.out _ (fun a ha => hs.drew.hold a (by simp [ha]))) ?_
   replace hs := hs.drew
   generalize w.drew = w at hs ⊢
   change Ch.CW _ _ _ _ _ [0, 1, 2, 3, 4, 5, 6, 7, 8, 9, 10, 11] _ _
   iterate 1 ((first | (refine Ch.pure (v := ?_) (by rfl) (by rfl) (by rfl) (fun wx hS => ?_) ?_; rotate_left; (focus (go_simp; (first | done | with_reducible rfl))))); (try simp only [Act.put, List.setIfInBounds_toArray, List.set_cons_zero, List.set_cons_succ]))
   refine Ch.noise (by rfl) (by rfl) (by rfl) (Se.ldw hs rfl rfl (Reads.blk 0 rfl) (by rw [RLL.out] <;> kernel_rfl) (by kernel_rfl) ?_)
   refine ⟨RP.out _ (fun a ha => hs.hold a (by simp [ha])), ?_⟩
   (try simp only [Act.put, List.setIfInBounds_toArray, List.set_cons_zero, List.set_cons_succ])
   iterate 4 ((first | (refine Ch.pure (v := ?_) (by rfl) (by rfl) (by rfl) (fun wx hS => ?_) ?_; rotate_left; (focus (go_simp; (first | done | with_reducible rfl)))) | refine Ch.pure (v := _) (by rfl) (by rfl) (by rfl) (fun wx hS => Se.xla rfl rfl hS (by rw [PCL.out] <;> kernel_rfl) (by kernel_rfl)) ?_); (try simp only [Act.put, List.setIfInBounds_toArray, List.set_cons_zero, List.set_cons_succ]))
   refine Ch.noise (by rfl) (by rfl) (by rfl) ?_
   refine Se.gcall (f := 23) (args := #[.pointer (some ⟨g, 0, none⟩), .agg RL.toArray, .agg PC.toArray]) ?_ ?_
   ·go_simp
   refine Calls.mono (CD.out _ hs) ?_
   clear hs
   rintro e w ⟨s', RL', r', B', c', B2', c2', rfl, HO', HRL', HC', hs⟩
   refine ⟨_, rfl, RP.out _ (fun a ha => hs.hold a (by simp [ha])), ?_⟩
   (try simp only [Act.put, List.setIfInBounds_toArray, List.set_cons_zero, List.set_cons_succ])
   (try simp only [List.cons_append, List.nil_append] at hs)
   iterate 3 ((first | (refine Ch.pure (v := ?_) (by rfl) (by rfl) (by rfl) (fun wx hS => ?_) ?_; rotate_left; (focus (go_simp; (first | done | with_reducible rfl))))); (try simp only [Act.put, List.setIfInBounds_toArray, List.set_cons_zero, List.set_cons_succ]))
   refine Ch.noise (by rfl) (by rfl) (by rfl) (Se.sow 0 (vs := RL') hs rfl rfl rfl rfl (by rw [HRL'.out]; exact rcl_one _ _ _) (by rw [HRL'.out]; kernel_rfl) (by rw [HRL'.out, RLL.out]; rfl) ?_)
   clear hs
   intro w hs
   simp only [List.cons_append, List.nil_append, List.set_cons_zero, List.set_cons_succ] at hs
   refine ⟨RP.out _ (fun a ha => hs.hold a (by simp [ha])), ?_⟩
   (try simp only [Act.put, List.setIfInBounds_toArray, List.set_cons_zero, List.set_cons_succ])
   iterate 1 ((first | (refine Ch.pure (v := ?_) (by rfl) (by rfl) (by rfl) (fun wx hS => ?_) ?_; rotate_left; (focus (go_simp; (first | done | with_reducible rfl))))); (try simp only [Act.put, List.setIfInBounds_toArray, List.set_cons_zero, List.set_cons_succ]))
   refine Ch.done ?_
   try simp only [List.drop_succ_cons, List.drop_zero]
   clear CD
   go_wp2_with fail
   go_roundg (n1 - (i + 1))
   case measure => omega
   case rel => exact ⟨i + 1, s', RL', r', B', c', B2', c2', rfl, by omega, by go_num, rfl, HO', HRL', HC', hs⟩
  ·obtain rfl : i = n1 := by omega
   have hlt2 : decide (i < i) = false := by simp
   have HO1 := Lib.hid (show okD s (tot x1) i by have h := HO.out; rw [HN1.out, List.take_length, ← HN1.out] at h; exact h)
   clear HO hlt
   go_upto_region 12 with (fail)
   go_cut [14, 15] (fun s14 s15 wx => ∃ gc g15 ry BY cy, s14 = .pointer (some ⟨gc, 0, none⟩) ∧ s15 = .pointer (some ⟨g15, 0, none⟩) ∧ St w0 X (.blk g15 57 RL :: .blk g11 57 RL :: .blk g4 23 F :: pR g s B c :: pO r B c s :: pM B2 s :: pR gc s BY cy :: pO ry BY cy s :: pM B2 s :: L) wx)
   case first =>
    have CC : Hid (∀ (M : List At) (w : World), St w0 X (M ++ pR g s B c :: pO r B c s :: pM B2 s :: L) w → Calls Try.prog 25 #[.pointer (some ⟨g, 0, none⟩)] w fun e w' => ∃ g' r' B' c', e = .returned (.pointer (some ⟨g', 0, none⟩)) ∧ St w0 X (pR g' s B' c' :: pO r' B' c' s :: (M ++ pR g s B c :: pO r B c s :: pM B2 s :: L)) w') := Lib.hid (fun M w hs => copy_m M hs HO1.out.1 (by have := HO1.out.2.1; have := HB1.out.2; omega))
    refine Or.region 6 (fun wx => Blk wx g11 RL 57) (fun | 1 => true | 3 => true | 5 => true | _ => false) (by kernel_rfl) (by decide +kernel) (hs.drew.hold (.blk g11 57 RL) (by simp)) ?_
    replace hs := hs.drew
    generalize w.drew = w at hs ⊢
    change Or.AW _ _ _ _ _ 6 [0, 1, 2, 3, 4, 5] _ _
    refine Or.pure 0 (v := ?_) (by rfl) (by decide +kernel) (by rfl) (by rfl) (by rfl) (fun wx hS => ?_) ?_; rotate_left; (focus (go_simp; (first | done | with_reducible rfl)))
    (try simp only [Act.put, List.setIfInBounds_toArray, List.set_cons_zero, List.set_cons_succ])
    change Or.AW _ _ _ _ _ 5 [1, 2, 3, 4, 5] _ _
    refine Or.pure 2 (v := .agg RL.toArray) (by rfl) (by decide +kernel) (by rfl) (by rfl) (by rfl) (fun wx hS => Se.xla rfl rfl (Li.Rd.of_blk hS) (by rw [RLL.out] <;> kernel_rfl) (by kernel_rfl)) ?_
    (try simp only [Act.put, List.setIfInBounds_toArray, List.set_cons_zero, List.set_cons_succ])
    change Or.AW _ _ _ _ _ 4 [1, 3, 4, 5] _ _
    refine Or.two 1 3 (by decide +kernel) (by decide +kernel) (by rfl) (by rfl) (by rfl) (by rfl) ?_ ?_
    ·skip
     refine Se.gcall (f := 25) (args := #[.pointer (some ⟨g, 0, none⟩)]) ?_ ?_
     ·go_simp
     refine Calls.mono (CC.out [_, _] _ hs) ?_
     clear hs
     rintro e w ⟨gc, ry, BY, cy, rfl, hs⟩
     simp only [List.cons_append, List.nil_append] at hs
     refine ⟨_, rfl, hs.hold (.blk g11 57 RL) (by simp), ?_⟩
     (try simp only [Act.put, List.setIfInBounds_toArray, List.set_cons_zero, List.set_cons_succ])
     change Or.AW _ _ _ _ _ 3 [3, 4, 5] _ _
     refine Or.one 3 (by decide +kernel) (by decide +kernel) (by rfl) (by rfl) ?_
     refine Se.al hs rfl zR ?_
     clear hs
     rintro w g15 - hs
     refine ⟨hs.hold (.blk g11 57 RL) (by simp), ?_⟩
     (try simp only [Act.put, List.setIfInBounds_toArray, List.set_cons_zero, List.set_cons_succ])
     change Or.AW _ _ _ _ _ 2 [4, 5] _ _
     refine Or.pure 4 (v := ?_) (by rfl) (by decide +kernel) (by rfl) (by rfl) (by rfl) (fun wx hS => ?_) ?_; rotate_left; (focus (go_simp; (first | done | with_reducible rfl)))
     (try simp only [Act.put, List.setIfInBounds_toArray, List.set_cons_zero, List.set_cons_succ])
     change Or.AW _ _ _ _ _ 1 [5] _ _
     refine Or.one 5 (by decide +kernel) (by decide +kernel) (by rfl) (by rfl) ?_
     refine Se.sow 0 (vs := RL) hs rfl rfl rfl rfl (by rw [HRL.out]; exact rcl_one _ _ _) (by rw [RLL.out] <;> kernel_rfl) (by rw [RLL.out]; rfl) ?_
     clear hs
     intro w hs
     simp only [List.cons_append, List.nil_append, List.set_cons_zero, List.set_cons_succ] at hs
     refine ⟨hs.hold (.blk g11 57 RL) (by simp), ?_⟩
     (try simp only [Act.put])
     change Or.AW _ _ _ _ _ 0 [] _ _
     refine Or.done ?_
     simp only [List.drop_succ_cons, List.drop_zero]
     go_wp2_with fail
     go_meet
     replace hs := hs.dup (A := B2) (xs := s.b.map v8) (by simp)
     replace hs := hs.pull 0 rfl
     replace hs := hs.pull 3 rfl
     replace hs := hs.pull 3 rfl
     replace hs := hs.pull 8 rfl
     replace hs := hs.pull 8 rfl
     replace hs := hs.pull 8 rfl
     replace hs := hs.pull 8 rfl
     replace hs := hs.pull 8 rfl
     replace hs := hs.pull 8 rfl
     simp only [List.eraseIdx_cons_succ, List.eraseIdx_cons_zero] at hs
     exact ⟨gc, g15, ry, BY, cy, rfl, rfl, hs⟩
    ·skip
     refine Se.al hs rfl zR ?_
     clear hs
     rintro w g15 - hs
     refine ⟨hs.hold (.blk g11 57 RL) (by simp), ?_⟩
     (try simp only [Act.put, List.setIfInBounds_toArray, List.set_cons_zero, List.set_cons_succ])
     change Or.AW _ _ _ _ _ 3 [1, 4, 5] _ _
     refine Or.one 1 (by decide +kernel) (by decide +kernel) (by rfl) (by rfl) ?_
     refine Se.gcall (f := 25) (args := #[.pointer (some ⟨g, 0, none⟩)]) ?_ ?_
     ·go_simp
     refine Calls.mono (CC.out [_, _, _] _ hs) ?_
     clear hs
     rintro e w ⟨gc, ry, BY, cy, rfl, hs⟩
     simp only [List.cons_append, List.nil_append] at hs
     refine ⟨_, rfl, hs.hold (.blk g11 57 RL) (by simp), ?_⟩
     (try simp only [Act.put, List.setIfInBounds_toArray, List.set_cons_zero, List.set_cons_succ])
     change Or.AW _ _ _ _ _ 2 [4, 5] _ _
     refine Or.pure 4 (v := ?_) (by rfl) (by decide +kernel) (by rfl) (by rfl) (by rfl) (fun wx hS => ?_) ?_; rotate_left; (focus (go_simp; (first | done | with_reducible rfl)))
     (try simp only [Act.put, List.setIfInBounds_toArray, List.set_cons_zero, List.set_cons_succ])
     change Or.AW _ _ _ _ _ 1 [5] _ _
     refine Or.one 5 (by decide +kernel) (by decide +kernel) (by rfl) (by rfl) ?_
     refine Se.sow 2 (vs := RL) hs rfl rfl rfl rfl (by rw [HRL.out]; exact rcl_one _ _ _) (by rw [RLL.out] <;> kernel_rfl) (by rw [RLL.out]; rfl) ?_
     clear hs
     intro w hs
     simp only [List.cons_append, List.nil_append, List.set_cons_zero, List.set_cons_succ] at hs
     refine ⟨hs.hold (.blk g11 57 RL) (by simp), ?_⟩
     (try simp only [Act.put])
     change Or.AW _ _ _ _ _ 0 [] _ _
     refine Or.done ?_
     simp only [List.drop_succ_cons, List.drop_zero]
     go_wp2_with fail
     go_meet
     replace hs := hs.dup (A := B2) (xs := s.b.map v8) (by simp)
     replace hs := hs.pull 0 rfl
     replace hs := hs.pull 2 rfl
     replace hs := hs.pull 2 rfl
     replace hs := hs.pull 8 rfl
     replace hs := hs.pull 8 rfl
     replace hs := hs.pull 8 rfl
     replace hs := hs.pull 8 rfl
     replace hs := hs.pull 8 rfl
     replace hs := hs.pull 8 rfl
     simp only [List.eraseIdx_cons_succ, List.eraseIdx_cons_zero] at hs
     exact ⟨gc, g15, ry, BY, cy, rfl, rfl, hs⟩
   case rest =>
   clear hs
   rename World => w
   obtain ⟨gc, g15, ry, BY, cy, rfl, rfl, hs⟩ := hcut
   go_wp2_with (first | ((with_reducible refine Se.isL (o := ⟨some 74, _, _, _, _, _⟩) ?_); (refine Se.toL rfl (Se.ldw (o := ⟨some 74, _, _, _, _, _⟩) hs rfl rfl ((Reads.blk 0 rfl)) ((by rw [RLL.out]; kernel_rfl)) (by kernel_rfl) ?_))) | (go_at_call 24; refine Calls.mono (looks_m [_, _, _, _, _, _] hs HRL.out) ?_; clear hs; rintro e w ⟨rfl, hs⟩))
   (try simp only [List.cons_append, List.nil_append] at hs)
   have HRL0 := HRL
   have HC0 := HC
   have RLL0 := RLL
   obtain ⟨T1, hT1⟩ : ∃ T1, T1 = tot x1 := ⟨_, rfl⟩
   rw [← hT1] at HO1
   have HT1 := Lib.hid (show T1 ≤ 6000 by rw [hT1]; exact HB1.out.2)
   clear hT1 HB1 HS1 HA1 HN1
   obtain ⟨nn, hnn⟩ : ∃ nn, nn = mxN n2 n3 := ⟨_, rfl⟩
   have HNN := Lib.hid hnn
   go_loopg [12, 16] nn (fun gh s12 s16 wr => ∃ (j : Nat) (s : Rc) (RL : List Value) (r : Option Nat) (B : Option Addr) (c : Nat) (B2 : Option Addr) (c2 : Nat) (y : Rc) (YL : List Value) (ry : Option Nat) (BY : Option Addr) (cy : Nat) (BZ : Option Addr) (cz : Nat), gh = nn - j ∧ j ≤ nn ∧ s16 = .int .i64 (j : Int) ∧ s12 = .bool true ∧ Hid (okD s (T1 + tot (x2.take j)) (i + j)) ∧ Hid (RL = rcl s B2 c2) ∧ Hid (s.b.length ≤ c2) ∧ Hid (okD y (T1 + tot (x3.take j)) (i + j)) ∧ Hid (YL = rcl y BZ cz) ∧ Hid (y.b.length ≤ cz) ∧ St w0 X (.blk g15 57 YL :: .blk g11 57 RL :: .blk g4 23 F :: pR g s B c :: pO r B c s :: pM B2 s :: pR gc y BY cy :: pO ry BY cy y :: pM BZ y :: L) wr)
   case atStart => exact ⟨0, s, RL, r, B, c, B2, c2, s, RL, ry, BY, cy, B2, c2, rfl, Nat.zero_le _, rfl, rfl, HO1, HRL, HC, HO1, HRL, HC, hs⟩
   case round =>
    clear hs HRL0 HC0 RLL0 HRL HC RLL HO1
    clear hnn
    rename World => w
    obtain ⟨j, s, RL, r, B, c, B2, c2, y, YL, ry, BY, cy, BZ, cz, rfl, hj, rfl, rfl, HO, HRL, HC, HOY, HYL, HCY, hs⟩ := hrel
    have RLL := Lib.hid (show RL.length = 8 by rw [HRL.out]; rfl)
    have YLL := Lib.hid (show YL.length = 8 by rw [HYL.out]; rfl)
    by_cases hjn : j < nn
    ·have hj60 : j ≤ 60 := by rw [HNN.out, mxN_lt] at hjn; omega
     have g1 : j < mxN n2 n3 := by rw [← HNN.out]; exact hjn
     have g2 : (j : Int) < ((mxN n2 n3 : Nat) : Int) := by omega
     have g3 : decide (j < mxN n2 n3) = true := by simpa using g1
     go_upto_if 90 with (fail)
     go_cut [12] (fun s12 wx => s12 = .bool true ∧ ∃ (s' : Rc) (RL' : List Value) (r' : Option Nat) (B' : Option Addr) (c' : Nat) (B2' : Option Addr) (c2' : Nat), Hid (okD s' (T1 + tot (x2.take (j + 1))) (i + (j + 1))) ∧ Hid (RL' = rcl s' B2' c2') ∧ Hid (s'.b.length ≤ c2') ∧ St w0 X (.blk g15 57 YL :: .blk g11 57 RL' :: .blk g4 23 F :: pR g s' B' c' :: pO r' B' c' s' :: pM B2' s' :: pR gc y BY cy :: pO ry BY cy y :: pM BZ y :: L) wx)
     case first =>
      by_cases h2 : j < n2
      ·have h2' : (j : Int) < (n2 : Int) := by omega
       have h2d : decide (j < n2) = true := by simpa using h2
       have hil : j < x2.length := by have := HN2.out; omega
       obtain ⟨PC, ga, oa, rfl, PCL, RP, CDO⟩ := HS2.out.step HA2.out hil (fun a ha => hs.hold a (by simp [ha]))
       have HT := Lib.hid (tot_snoc x2 j hil)
       have HTL := Lib.hid (Nat.le_trans (tot_le x2 (j + 1)) HB2.out.2)
       have CD : Hid (∀ (w : World), St w0 X (.blk g15 57 YL :: .blk g11 57 RL :: .blk g4 23 F :: pR g s B c :: pO r B c s :: pM B2 s :: pR gc y BY cy :: pO ry BY cy y :: pM BZ y :: L) w → Calls Try.prog 23 #[.pointer (some ⟨g, 0, none⟩), .agg RL.toArray, .agg PC.toArray] w fun e' w' => ∃ s' RL' r' B' c' B2' c2', e' = .returned (.tuple #[.agg RL'.toArray, .bool true]) ∧ Hid (okD s' (T1 + tot (x2.take (j + 1))) (i + (j + 1))) ∧ Hid (RL' = rcl s' B2' c2') ∧ Hid (s'.b.length ≤ c2') ∧ St w0 X (.blk g15 57 YL :: .blk g11 57 RL :: .blk g4 23 F :: pR g s' B' c' :: pO r' B' c' s' :: pM B2' s' :: pR gc y BY cy :: pO ry BY cy y :: pM BZ y :: L) w') := Lib.hid (fun w hs => by
        rw [HT.out, ← Nat.add_assoc, ← Nat.add_assoc]
        exact CDO.out w0 X [_, _, _] (_ :: _ :: _ :: L) s g B c r B2 c2 _ _ RL w HRL HC HO (by have h1 := HTL.out; have h2 := HT.out; have h3 := HT1.out; omega) (by omega) (fun a ha => by simp [ha]) hs)
       clear CDO HT hil
       go_upto_region 19 with (fail)
       refine Ch.region' 12 (fun wx => Rd wx (some ⟨ga, oa + j * 5, none⟩) PC) (fun | 1 => true | 6 => true | 10 => true | _ => false) (by kernel_rfl) (by decide +kernel) (RP.out _ (fun a ha => hs.drew.hold a (by simp [ha]))) ?_
       replace hs := hs.drew
       generalize w.drew = w at hs ⊢
       change Ch.CW _ _ _ _ _ [0, 1, 2, 3, 4, 5, 6, 7, 8, 9, 10, 11] _ _
       iterate 1 ((first | (refine Ch.pure (v := ?_) (by rfl) (by rfl) (by rfl) (fun wx hS => ?_) ?_; rotate_left; (focus (go_simp; (first | done | with_reducible rfl))))); (try simp only [Act.put, List.setIfInBounds_toArray, List.set_cons_zero, List.set_cons_succ]))
       refine Ch.noise (by rfl) (by rfl) (by rfl) (Se.ldw hs rfl rfl (Reads.blk 1 rfl) (by rw [RLL.out] <;> kernel_rfl) (by kernel_rfl) ?_)
       refine ⟨RP.out _ (fun a ha => hs.hold a (by simp [ha])), ?_⟩
       (try simp only [Act.put, List.setIfInBounds_toArray, List.set_cons_zero, List.set_cons_succ])
       iterate 4 ((first | (refine Ch.pure (v := ?_) (by rfl) (by rfl) (by rfl) (fun wx hS => ?_) ?_; rotate_left; (focus (go_simp; (first | done | with_reducible rfl)))) | refine Ch.pure (v := _) (by rfl) (by rfl) (by rfl) (fun wx hS => Se.xla rfl rfl hS (by rw [PCL.out] <;> kernel_rfl) (by kernel_rfl)) ?_); (try simp only [Act.put, List.setIfInBounds_toArray, List.set_cons_zero, List.set_cons_succ]))
       refine Ch.noise (by rfl) (by rfl) (by rfl) ?_
       refine Se.gcall (f := 23) (args := #[.pointer (some ⟨g, 0, none⟩), .agg RL.toArray, .agg PC.toArray]) ?_ ?_
       ·go_simp
       refine Calls.mono (CD.out _ hs) ?_
       clear hs
       rintro e w ⟨s', RL', r', B', c', B2', c2', rfl, HO', HRL', HC', hs⟩
       refine ⟨_, rfl, RP.out _ (fun a ha => hs.hold a (by simp [ha])), ?_⟩
       (try simp only [Act.put, List.setIfInBounds_toArray, List.set_cons_zero, List.set_cons_succ])
       (try simp only [List.cons_append, List.nil_append] at hs)
       iterate 3 ((first | (refine Ch.pure (v := ?_) (by rfl) (by rfl) (by rfl) (fun wx hS => ?_) ?_; rotate_left; (focus (go_simp; (first | done | with_reducible rfl))))); (try simp only [Act.put, List.setIfInBounds_toArray, List.set_cons_zero, List.set_cons_succ]))
       refine Ch.noise (by rfl) (by rfl) (by rfl) (Se.sow 1 (vs := RL') hs rfl rfl rfl rfl (by rw [HRL'.out]; exact rcl_one _ _ _) (by rw [HRL'.out]; kernel_rfl) (by rw [HRL'.out, RLL.out]; rfl) ?_)
       clear hs
       intro w hs
       simp only [List.cons_append, List.nil_append, List.set_cons_zero, List.set_cons_succ] at hs
       refine ⟨RP.out _ (fun a ha => hs.hold a (by simp [ha])), ?_⟩
       (try simp only [Act.put, List.setIfInBounds_toArray, List.set_cons_zero, List.set_cons_succ])
       iterate 1 ((first | (refine Ch.pure (v := ?_) (by rfl) (by rfl) (by rfl) (fun wx hS => ?_) ?_; rotate_left; (focus (go_simp; (first | done | with_reducible rfl))))); (try simp only [Act.put, List.setIfInBounds_toArray, List.set_cons_zero, List.set_cons_succ]))
       refine Ch.done ?_
       try simp only [List.drop_succ_cons, List.drop_zero]
       clear CD
       go_wp2_with fail
       go_meet
       exact ⟨rfl, s', RL', r', B', c', B2', c2', HO', HRL', HC', hs⟩
      ·have h2' : ¬ (j : Int) < (n2 : Int) := by omega
       have h2d : decide (j < n2) = false := by simpa using h2
       go_wp2_with fail
       go_meet
       refine ⟨rfl, s, RL, r, B, c, B2, c2, Lib.hid ?_, HRL, HC, hs⟩
       have h5 := HO.out.id 0
       rw [Nat.add_zero] at h5
       have e1 : x2.take (j + 1) = x2.take j := by rw [List.take_of_length_le (by have := HN2.out; omega), List.take_of_length_le (by have := HN2.out; omega)]
       rw [e1]
       exact h5
     case rest =>
     clear hs
     rename World => w
     obtain ⟨rfl, s', RL', r', B', c', B2', c2', HO', HRL', HC', hs⟩ := hcut
     clear HO HRL HC RLL
     have HO := HO'
     clear HO'
     by_cases h3 : j < n3
     ·have h3' : (j : Int) < (n3 : Int) := by omega
      have h3d : decide (j < n3) = true := by simpa using h3
      have hil : j < x3.length := by have := HN3.out; omega
      obtain ⟨PC, ga, oa, rfl, PCL, RP, CDO⟩ := HS3.out.step HA3.out hil (fun a ha => hs.hold a (by simp [ha]))
      have HT := Lib.hid (tot_snoc x3 j hil)
      have HTL := Lib.hid (Nat.le_trans (tot_le x3 (j + 1)) HB3.out.2)
      have HRLx := HRL'
      have HCx := HC'
      clear HRL' HC'
      obtain ⟨sx, hsx⟩ : ∃ sx, sx = s' := ⟨_, rfl⟩
      obtain ⟨RX, hRX⟩ : ∃ RX, RX = RL' := ⟨_, rfl⟩
      obtain ⟨rx, hrx⟩ : ∃ rx, rx = r' := ⟨_, rfl⟩
      obtain ⟨Bx, hBx⟩ : ∃ Bx, Bx = B' := ⟨_, rfl⟩
      obtain ⟨cx, hcx⟩ : ∃ cx, cx = c' := ⟨_, rfl⟩
      obtain ⟨Bu, hBu⟩ : ∃ Bu, Bu = B2' := ⟨_, rfl⟩
      obtain ⟨cu, hcu⟩ : ∃ cu, cu = c2' := ⟨_, rfl⟩
      rw [← hsx, ← hRX, ← hrx, ← hBx, ← hcx, ← hBu] at hs
      rw [← hsx] at HO HCx
      rw [← hRX, ← hsx, ← hBu, ← hcu] at HRLx
      rw [← hcu] at HCx
      clear hsx hRX hrx hBx hcx hBu hcu
      have CD : Hid (∀ (w : World), St w0 X (.blk g15 57 YL :: .blk g11 57 RX :: .blk g4 23 F :: pR g sx Bx cx :: pO rx Bx cx sx :: pM Bu sx :: pR gc y BY cy :: pO ry BY cy y :: pM BZ y :: L) w → Calls Try.prog 23 #[.pointer (some ⟨gc, 0, none⟩), .agg YL.toArray, .agg PC.toArray] w fun e' w' => ∃ s' RL' r' B' c' B2' c2', e' = .returned (.tuple #[.agg RL'.toArray, .bool true]) ∧ Hid (okD s' (T1 + tot (x3.take (j + 1))) (i + (j + 1))) ∧ Hid (RL' = rcl s' B2' c2') ∧ Hid (s'.b.length ≤ c2') ∧ St w0 X ([.blk g15 57 YL, .blk g11 57 RX, .blk g4 23 F, pR g sx Bx cx, pO rx Bx cx sx, pM Bu sx] ++ pR gc s' B' c' :: pO r' B' c' s' :: pM B2' s' :: L) w') := Lib.hid (fun w hs => by
       rw [HT.out, ← Nat.add_assoc, ← Nat.add_assoc]
       exact CDO.out w0 X [_, _, _, _, _, _] L y gc BY cy ry BZ cz _ _ YL w HYL HCY HOY (by have h1 := HTL.out; have h2 := HT.out; have h3 := HT1.out; omega) (by omega) (fun a ha => by simp [ha]) hs)
      clear CDO HT hil
      go_upto_region 21 with (fail)
      refine Ch.region' 12 (fun wx => Rd wx (some ⟨ga, oa + j * 5, none⟩) PC) (fun | 1 => true | 6 => true | 10 => true | _ => false) (by kernel_rfl) (by decide +kernel) (RP.out _ (fun a ha => hs.drew.hold a (by simp [ha]))) ?_
      replace hs := hs.drew
      generalize w.drew = w at hs ⊢
      change Ch.CW _ _ _ _ _ [0, 1, 2, 3, 4, 5, 6, 7, 8, 9, 10, 11] _ _
      iterate 1 ((first | (refine Ch.pure (v := ?_) (by rfl) (by rfl) (by rfl) (fun wx hS => ?_) ?_; rotate_left; (focus (go_simp; (first | done | with_reducible rfl))))); (try simp only [Act.put, List.setIfInBounds_toArray, List.set_cons_zero, List.set_cons_succ]))
      refine Ch.noise (by rfl) (by rfl) (by rfl) (Se.ldw hs rfl rfl (Reads.blk 0 rfl) (by rw [YLL.out] <;> kernel_rfl) (by kernel_rfl) ?_)
      refine ⟨RP.out _ (fun a ha => hs.hold a (by simp [ha])), ?_⟩
      (try simp only [Act.put, List.setIfInBounds_toArray, List.set_cons_zero, List.set_cons_succ])
      iterate 4 ((first | (refine Ch.pure (v := ?_) (by rfl) (by rfl) (by rfl) (fun wx hS => ?_) ?_; rotate_left; (focus (go_simp; (first | done | with_reducible rfl)))) | refine Ch.pure (v := _) (by rfl) (by rfl) (by rfl) (fun wx hS => Se.xla rfl rfl hS (by rw [PCL.out] <;> kernel_rfl) (by kernel_rfl)) ?_); (try simp only [Act.put, List.setIfInBounds_toArray, List.set_cons_zero, List.set_cons_succ]))
      refine Ch.noise (by rfl) (by rfl) (by rfl) ?_
      refine Se.gcall (f := 23) (args := #[.pointer (some ⟨gc, 0, none⟩), .agg YL.toArray, .agg PC.toArray]) ?_ ?_
      ·go_simp
      refine Calls.mono (CD.out _ hs) ?_
      clear hs
      rintro e w ⟨s', RL', r', B', c', B2', c2', rfl, HO', HRL', HC', hs⟩
      refine ⟨_, rfl, RP.out _ (fun a ha => hs.hold a (by simp [ha])), ?_⟩
      (try simp only [Act.put, List.setIfInBounds_toArray, List.set_cons_zero, List.set_cons_succ])
      (try simp only [List.cons_append, List.nil_append] at hs)
      iterate 3 ((first | (refine Ch.pure (v := ?_) (by rfl) (by rfl) (by rfl) (fun wx hS => ?_) ?_; rotate_left; (focus (go_simp; (first | done | with_reducible rfl))))); (try simp only [Act.put, List.setIfInBounds_toArray, List.set_cons_zero, List.set_cons_succ]))
      refine Ch.noise (by rfl) (by rfl) (by rfl) (Se.sow 0 (vs := RL') hs rfl rfl rfl rfl (by rw [HRL'.out]; exact rcl_one _ _ _) (by rw [HRL'.out]; kernel_rfl) (by rw [HRL'.out, YLL.out]; rfl) ?_)
      clear hs
      intro w hs
      simp only [List.cons_append, List.nil_append, List.set_cons_zero, List.set_cons_succ] at hs
      refine ⟨RP.out _ (fun a ha => hs.hold a (by simp [ha])), ?_⟩
      (try simp only [Act.put, List.setIfInBounds_toArray, List.set_cons_zero, List.set_cons_succ])
      iterate 1 ((first | (refine Ch.pure (v := ?_) (by rfl) (by rfl) (by rfl) (fun wx hS => ?_) ?_; rotate_left; (focus (go_simp; (first | done | with_reducible rfl))))); (try simp only [Act.put, List.setIfInBounds_toArray, List.set_cons_zero, List.set_cons_succ]))
      refine Ch.done ?_
      try simp only [List.drop_succ_cons, List.drop_zero]
      clear CD
      go_wp2_with fail
      go_roundg (nn - (j + 1))
      case measure => omega
      case rel => exact ⟨j + 1, _, _, _, _, _, _, _, s', RL', r', B', c', B2', c2', rfl, by omega, by go_num, rfl, HO, HRLx, HCx, HO', HRL', HC', hs⟩
     ·have h3' : ¬ (j : Int) < (n3 : Int) := by omega
      have h3d : decide (j < n3) = false := by simpa using h3
      go_wp2_with fail
      go_roundg (nn - (j + 1))
      case measure => omega
      case rel =>
       refine ⟨j + 1, s', RL', r', B', c', B2', c2', y, YL, ry, BY, cy, BZ, cz, rfl, by omega, by go_num, rfl, HO, HRL', HC', Lib.hid ?_, HYL, HCY, hs⟩
       have h5 := HOY.out.id 0
       rw [Nat.add_zero] at h5
       have e1 : x3.take (j + 1) = x3.take j := by rw [List.take_of_length_le (by have := HN3.out; omega), List.take_of_length_le (by have := HN3.out; omega)]
       rw [e1]
       exact h5
    ·have g1 : ¬ j < mxN n2 n3 := by rw [← HNN.out]; exact hjn
     have g2 : ¬ (j : Int) < ((mxN n2 n3 : Nat) : Int) := by omega
     have g3 : decide (j < mxN n2 n3) = false := by simpa using g1
     clear HO HOY HC HCY
     go_wp2_with (first | ((with_reducible refine Se.isL (o := ⟨some 121, _, _, _, _, _⟩) ?_); (refine Se.toL rfl (Se.ldw (o := ⟨some 121, _, _, _, _, _⟩) hs rfl rfl ((Reads.blk 1 rfl)) ((by rw [RLL.out]; kernel_rfl)) (by kernel_rfl) ?_))) | ((with_reducible refine Se.isL (o := ⟨some 125, _, _, _, _, _⟩) ?_); (refine Se.toL rfl (Se.ldw (o := ⟨some 125, _, _, _, _, _⟩) hs rfl rfl ((Reads.blk 0 rfl)) ((by rw [YLL.out]; kernel_rfl)) (by kernel_rfl) ?_))) | (go_at_call 24; (first | refine Calls.mono (looks_m [_, _, _] hs HRL.out) ?_ | refine Calls.mono (looks_m [_, _, _, _, _, _] hs HYL.out) ?_); clear hs; rintro e w ⟨rfl, hs⟩; simp only [List.cons_append, List.nil_append] at hs) | (go_at_call 9; refine Calls.mono (CK.out [_, _, _, _, _, _, _, _, _] _ hs) ?_; clear hs; rintro e w ⟨rfl, hs⟩))
     go_ret
     exact ⟨rfl, hs.drop.drop.drop.drop.drop.drop.drop.drop.drop⟩
theorem copies_any (f : Fm) (W : World) {A1 A2 A3 : Option Addr} {n1 n2 n3 k1 k2 k3 : Nat} {R1 R2 R3 : List (List Value)} {q1 q2 q3 : List (Stp × Option Addr × Nat)}
  (hn1 : n1 = (q1.map (·.1)).length) (hb1 : n1 ≤ reachBytes) (hR1 : Rd W A1 R1.flatten) (hq1 : ∀ q ∈ q1, Rd W q.2.1 (q.1.x.map v8)) (hl1 : ∀ q ∈ q1.map (·.1), q.x.length ≤ reachBytes) (hS1 : SS (rds (q1.map fun q => (q.2.1, q.1.x.map v8))) R1 (q1.map (·.1)))
  (hn2 : n2 = (q2.map (·.1)).length) (hb2 : n2 ≤ reachBytes) (hR2 : Rd W A2 R2.flatten) (hq2 : ∀ q ∈ q2, Rd W q.2.1 (q.1.x.map v8)) (hl2 : ∀ q ∈ q2.map (·.1), q.x.length ≤ reachBytes) (hS2 : SS (rds (q2.map fun q => (q.2.1, q.1.x.map v8))) R2 (q2.map (·.1)))
  (hn3 : n3 = (q3.map (·.1)).length) (hb3 : n3 ≤ reachBytes) (hR3 : Rd W A3 R3.flatten) (hq3 : ∀ q ∈ q3, Rd W q.2.1 (q.1.x.map v8)) (hl3 : ∀ q ∈ q3.map (·.1), q.x.length ≤ reachBytes) (hS3 : SS (rds (q3.map fun q => (q.2.1, q.1.x.map v8))) R3 (q3.map (·.1))) :
  Calls Try.prog 7 #[fv f, .slice A1 n1 k1, .slice A2 n2 k2, .slice A3 n3 k3] W fun e w' => e = .returned (.bool true) ∧ Below W.heap.size W w' := by
 have up : ∀ {qs : List (Stp × Option Addr × Nat)} (h : ∀ q ∈ qs, Rd W q.2.1 (q.1.x.map v8)) (q : Option Addr × List Value), q ∈ (qs.map fun q => (q.2.1, q.1.x.map v8)) → Rd W q.1 q.2 := by
  intro qs h q hq
  obtain ⟨y, hy, rfl⟩ := List.mem_map.1 hq
  exact h y hy
 obtain ⟨l1, h1⟩ : ∃ l, l = (q1.map fun q => (q.2.1, q.1.x.map v8)) := ⟨_, rfl⟩
 obtain ⟨l2, h2⟩ : ∃ l, l = (q2.map fun q => (q.2.1, q.1.x.map v8)) := ⟨_, rfl⟩
 obtain ⟨l3, h3⟩ : ∃ l, l = (q3.map fun q => (q.2.1, q.1.x.map v8)) := ⟨_, rfl⟩
 rw [← h1] at hS1
 rw [← h2] at hS2
 rw [← h3] at hS3
 have h0 : St W [] (rds ((A1, R1.flatten) :: (A2, R2.flatten) :: (A3, R3.flatten) :: (l1 ++ (l2 ++ l3)))) W := start_rds (by
  intro q h
  simp only [List.mem_cons, List.mem_append] at h
  rcases h with rfl | rfl | rfl | h | h | h
  ·exact hR1
  ·exact hR2
  ·exact hR3
  ·exact up hq1 q (h1 ▸ h)
  ·exact up hq2 q (h2 ▸ h)
  ·exact up hq3 q (h3 ▸ h))
 have r1 := rds_mem (l := (A1, R1.flatten) :: (A2, R2.flatten) :: (A3, R3.flatten) :: (l1 ++ (l2 ++ l3))) (q := (A1, R1.flatten)) List.mem_cons_self
 have r2 := rds_mem (l := (A1, R1.flatten) :: (A2, R2.flatten) :: (A3, R3.flatten) :: (l1 ++ (l2 ++ l3))) (q := (A2, R2.flatten)) (List.mem_cons_of_mem _ List.mem_cons_self)
 have r3 := rds_mem (l := (A1, R1.flatten) :: (A2, R2.flatten) :: (A3, R3.flatten) :: (l1 ++ (l2 ++ l3))) (q := (A3, R3.flatten)) (List.mem_cons_of_mem _ (List.mem_cons_of_mem _ List.mem_cons_self))
 have up2 : ∀ q ∈ l1 ++ (l2 ++ l3), q ∈ (A1, R1.flatten) :: (A2, R2.flatten) :: (A3, R3.flatten) :: (l1 ++ (l2 ++ l3)) := fun q h => List.mem_cons_of_mem _ (List.mem_cons_of_mem _ (List.mem_cons_of_mem _ h))
 have s1 := hS1.rds (l' := (A1, R1.flatten) :: (A2, R2.flatten) :: (A3, R3.flatten) :: (l1 ++ (l2 ++ l3))) (fun q h => up2 q (List.mem_append.2 (.inl h)))
 have s2 := hS2.rds (l' := (A1, R1.flatten) :: (A2, R2.flatten) :: (A3, R3.flatten) :: (l1 ++ (l2 ++ l3))) (fun q h => up2 q (List.mem_append.2 (.inr (List.mem_append.2 (.inl h)))))
 have s3 := hS3.rds (l' := (A1, R1.flatten) :: (A2, R2.flatten) :: (A3, R3.flatten) :: (l1 ++ (l2 ++ l3))) (fun q h => up2 q (List.mem_append.2 (.inr (List.mem_append.2 (.inr h)))))
 exact (copies_st h0 f hn1 hn2 hn3 r1 r2 r3 s1 s2 s3 hl1 hl2 hl3 hb1 hb2 hb3).mono fun e w' h => ⟨h.1, h.2.below⟩
end Sr
end Go.Proofs.Ytdngfcmakjlamaa


/- Layer 28: within; copies; a panic that becomes a status. No condition but Go's own limits. -/
import Derived.Test.YthpgkkfahiglnaaZoneBase
set_option maxRecDepth 100000
set_option maxHeartbeats 4000000
set_option linter.unusedSimpArgs false
set_option linter.unusedVariables false
namespace Go.Proofs.Ythpgkkfahiglnaa
open Go Go.RowKit
namespace Zo
open Se (St At Reads Cell)
open Li (Rd Blk Fr)
variable {w0 w : World} {X : List Nat} {L : List At}
attribute [local irreducible] Calls
attribute [local go_sem] eql_nil
def ints (xs : List Int) : List Value := xs.map fun x => .int .i64 x
def bad (lo hi x : Int) : Bool := decide (x < lo) || decide (hi < x)
theorem within1_st (hs : St w0 X L w) {b1 b2 : Nat} {lo hi : Int} (h1 : Cell L b1 0 (.int .i64 lo)) (h2 : Cell L b2 0 (.int .i64 hi)) (x : Int) : Calls Try.prog 68 #[.int .i64 x, .pointer (some ⟨b1, 0, none⟩), .pointer (some ⟨b2, 0, none⟩)] w fun e w' => e = .returned (.bool (bad lo hi x)) ∧ St w0 X L w' := by
 have H1 := Lib.hid h1
 have H2 := Lib.hid h2
 have HB : Hid (bad lo hi x = (decide (x < lo) || decide (hi < x))) := Lib.hid rfl
 clear h1 h2
 by_cases q1 : x < lo
 ·have d1 : decide (x < lo) = true := by simpa using q1
  have HB2 := Lib.hid (show bad lo hi x = true by rw [HB.out, d1]; rfl)
  clear q1 HB
  go_enter Try.func68, Try.ntmps68
  go_wp2_with (first | ((with_reducible refine Se.isL (o := ⟨some 6, _, _, _, _, _⟩) ?_); (refine Se.toL rfl (Se.ld (o := ⟨some 6, _, _, _, _, _⟩) hs rfl rfl (H1.out) (by kernel_rfl) ?_))))
  go_ret
  exact ⟨by rw [HB2.out]; rfl, hs⟩
 have d1 : decide (x < lo) = false := by simpa using q1
 by_cases q2 : hi < x
 ·have d2 : decide (hi < x) = true := by simpa using q2
  have HB2 := Lib.hid (show bad lo hi x = true by rw [HB.out, d2]; simp)
  clear q1 q2 HB
  go_enter Try.func68, Try.ntmps68
  go_wp2_with (first | ((with_reducible refine Se.isL (o := ⟨some 6, _, _, _, _, _⟩) ?_); (refine Se.toL rfl (Se.ld (o := ⟨some 6, _, _, _, _, _⟩) hs rfl rfl (H1.out) (by kernel_rfl) ?_))) | ((with_reducible refine Se.isL (o := ⟨some 10, _, _, _, _, _⟩) ?_); (refine Se.toL rfl (Se.ld (o := ⟨some 10, _, _, _, _, _⟩) hs rfl rfl (H2.out) (by kernel_rfl) ?_))))
  go_ret
  exact ⟨by rw [HB2.out]; rfl, hs⟩
 have d2 : decide (hi < x) = false := by simpa using q2
 have HB2 := Lib.hid (show bad lo hi x = false by rw [HB.out, d1, d2]; rfl)
 clear q1 q2 HB
 go_enter Try.func68, Try.ntmps68
 go_wp2_with (first | ((with_reducible refine Se.isL (o := ⟨some 6, _, _, _, _, _⟩) ?_); (refine Se.toL rfl (Se.ld (o := ⟨some 6, _, _, _, _, _⟩) hs rfl rfl (H1.out) (by kernel_rfl) ?_))) | ((with_reducible refine Se.isL (o := ⟨some 10, _, _, _, _, _⟩) ?_); (refine Se.toL rfl (Se.ld (o := ⟨some 10, _, _, _, _, _⟩) hs rfl rfl (H2.out) (by kernel_rfl) ?_))))
 go_ret
 exact ⟨by rw [HB2.out]; rfl, hs⟩
theorem indexf_st (hs : St w0 X L w) {b1 b2 : Nat} {lo hi : Int} (h1 : Cell L b1 0 (.int .i64 lo)) (h2 : Cell L b2 0 (.int .i64 hi)) {xs : List Int} {A : Option Addr} {n c : Nat} (hn : n = xs.length) (hA : Reads L A (ints xs)) (hle : n ≤ 70368744177664) :
  Calls Try.prog 87 #[.slice A n c, .func (.func 68) #[] #[.pointer (some ⟨b1, 0, none⟩), .pointer (some ⟨b2, 0, none⟩)]] w fun e w' => ∃ k : Int, e = .returned (.int .i64 k) ∧ Hid (decide (0 ≤ k) = xs.any (bad lo hi)) ∧ St w0 X L w' := by
 have H1 := Lib.hid h1
 have H2 := Lib.hid h2
 have HN := Lib.hid hn
 have HA := Lib.hid hA
 clear h1 h2 hn hA
 go_enter Try.func87, Try.ntmps87
 go_wp2_with fail
 go_loopg [8] n (fun gh s8 wr => ∃ i : Nat, gh = n - i ∧ i ≤ n ∧ s8 = .int .i64 (i : Int) ∧ Hid ((xs.take i).any (bad lo hi) = false) ∧ St w0 X L wr)
 case atStart => exact ⟨0, rfl, Nat.zero_le _, rfl, Lib.hid rfl, hs⟩
 case round =>
  clear hs
  rename World => w
  obtain ⟨i, rfl, hi0, rfl, HT, hs⟩ := hrel
  by_cases hlt : i < n
  ·have hlt' : (i : Int) < (n : Int) := by omega
   have hil : i < xs.length := by have := HN.out; omega
   have hx : (ints xs)[i]? = some (.int .i64 xs[i]) := by simp [ints, hil]
   obtain ⟨g, o, rfl, _, _⟩ := (HA.out w hs.hold).cells (by intro h0; rw [h0] at hx; simp at hx)
   have HC := Lib.hid (HA.out.cell i hx)
   have HS := Lib.hid (show (xs.take (i + 1)).any (bad lo hi) = ((xs.take i).any (bad lo hi) || bad lo hi xs[i]) by rw [List.take_add_one, List.getElem?_eq_getElem hil, List.any_append]; simp)
   have HM := Lib.hid (show bad lo hi xs[i] = true → xs.any (bad lo hi) = true from fun h => List.any_eq_true.2 ⟨_, List.getElem_mem hil, h⟩)
   obtain ⟨x, hx2⟩ : ∃ x, x = xs[i] := ⟨_, rfl⟩
   rw [← hx2] at HC HS HM
   obtain ⟨b, hb⟩ : ∃ b, b = bad lo hi x := ⟨_, rfl⟩
   have CB : Hid (∀ (w : World), St w0 X L w → Calls Try.prog 68 #[.int .i64 x, .pointer (some ⟨b1, 0, none⟩), .pointer (some ⟨b2, 0, none⟩)] w fun e w' => e = .returned (.bool b) ∧ St w0 X L w') := Lib.hid (fun w hs => by rw [hb]; exact within1_st hs H1.out H2.out x)
   rw [← hb] at HS HM
   clear hx hx2 hb hil
   cases b with
   | true =>
    go_wp2_with (first | ((with_reducible refine Se.isL (o := ⟨some 15, _, _, _, _, _⟩) ?_); (refine Se.toL rfl (Se.ld (o := ⟨some 15, _, _, _, _, _⟩) hs rfl rfl (HC.out) (by kernel_rfl) ?_))) | (go_at_call 68; refine Calls.mono (CB.out _ hs) ?_; clear hs; rintro e w ⟨rfl, hs⟩))
    go_ret
    exact ⟨i, rfl, Lib.hid (by rw [HM.out trivial]; simp), hs⟩
   | false =>
    go_wp2_with (first | ((with_reducible refine Se.isL (o := ⟨some 15, _, _, _, _, _⟩) ?_); (refine Se.toL rfl (Se.ld (o := ⟨some 15, _, _, _, _, _⟩) hs rfl rfl (HC.out) (by kernel_rfl) ?_))) | (go_at_call 68; refine Calls.mono (CB.out _ hs) ?_; clear hs; rintro e w ⟨rfl, hs⟩))
    go_roundg (n - (i + 1))
    case measure => omega
    case rel => exact ⟨i + 1, rfl, by omega, by go_num, Lib.hid (by rw [HS.out, HT.out]; rfl), hs⟩
  ·obtain rfl : i = n := by omega
   have HF := Lib.hid (show xs.any (bad lo hi) = false by have h := HT.out; rw [HN.out, List.take_length] at h; exact h)
   go_wp2_with fail
   go_ret
   exact ⟨-1, rfl, Lib.hid (by rw [HF.out]; rfl), hs⟩
theorem within_st (hs : St w0 X L w) (lo hi : Int) {xs : List Int} {A : Option Addr} {n c : Nat} (hn : n = xs.length) (hA : Reads L A (ints xs)) (hle : n ≤ 70368744177664) {b : Bool} (hb : xs.all (fun x => decide (lo ≤ x ∧ x ≤ hi)) = b) :
  Calls Try.prog 32 #[.int .i64 lo, .int .i64 hi, .slice A n c] w fun e w' => e = .returned (.bool b) ∧ St w0 X L w' := by
 have HB : Hid (xs.any (bad lo hi) = !b) := Lib.hid (by
  rw [← hb, Bool.eq_iff_iff, List.any_eq_true, Bool.not_eq_true', List.all_eq_false]
  constructor
  ·rintro ⟨x, hx, h⟩
   refine ⟨x, hx, ?_⟩
   unfold bad at h
   simp only [Bool.or_eq_true, decide_eq_true_eq] at h ⊢
   omega
  ·rintro ⟨x, hx, h⟩
   refine ⟨x, hx, ?_⟩
   unfold bad
   simp only [Bool.or_eq_true, decide_eq_true_eq] at h ⊢
   omega)
 have CI : Hid (∀ (M : List At) (b1 b2 : Nat) (w : World), Cell (M ++ L) b1 0 (.int .i64 lo) → Cell (M ++ L) b2 0 (.int .i64 hi) → St w0 X (M ++ L) w → Calls Try.prog 67 #[.slice A n c, .func (.func 68) #[] #[.pointer (some ⟨b1, 0, none⟩), .pointer (some ⟨b2, 0, none⟩)]] w fun e w' => e = .returned (.bool (!b)) ∧ St w0 X (M ++ L) w') := Lib.hid (by
  intro M b1 b2 w h1 h2 hs
  have CX : Hid (∀ (w : World), St w0 X (M ++ L) w → Calls Try.prog 87 #[.slice A n c, .func (.func 68) #[] #[.pointer (some ⟨b1, 0, none⟩), .pointer (some ⟨b2, 0, none⟩)]] w fun e w' => ∃ k : Int, e = .returned (.int .i64 k) ∧ Hid (decide (0 ≤ k) = !b) ∧ St w0 X (M ++ L) w') := Lib.hid (fun w hs => by
   have h := indexf_st hs h1 h2 hn (hA.app M) hle (c := c)
   rwa [HB.out] at h)
  clear h1 h2 hn hA hle hb HB
  go_enter Try.func67, Try.ntmps67
  go_wp2_with (first | (go_at_call 87; refine Calls.mono (CX.out _ hs) ?_; clear hs; rintro e w ⟨k, rfl, HK, hs⟩))
  have hk := HK.out
  go_ret
  exact ⟨by simp_all, hs⟩)
 clear hn hA hle hb HB
 go_enter Try.func32, Try.ntmps32
 go_wp2_with (first | ((first | with_reducible refine Se.ab hs ?_ | with_reducible refine Se.abc hs ?_); clear hs; (first | ((fail_if_success (have _q := b3)); generalize w.heap.size = b3; intro w hs) | (generalize w.heap.size = b4; intro w hs))) | (go_at_call 67; refine Calls.mono (CI.out [_, _] _ _ _ (Cell.blk 1 rfl rfl) (Cell.blk 0 rfl rfl) hs) ?_; clear hs; rintro e w ⟨rfl, hs⟩))
 go_ret
 exact ⟨by simp, hs.drop.drop⟩
theorem one_i : (Try.prog.info? 80).map (fun i => (i.zero, i.size, i.bytes)) = some (some (.agg (oc { st := 0 }).toArray), 3, 24) := by kernel_rfl
theorem one_z : (Value.agg (oc { st := 0 }).toArray).cells.size = 3 := by kernel_rfl
theorem clone_st (hs : St w0 X L w) {A : Option Addr} {n c : Nat} {l : List Zn} (hr : Reads L A (ocs l)) (hn : n = l.length) (h1 : 1 ≤ n) (hle : n ≤ 4194304) :
  Calls Try.prog 59 #[.slice A n c] w fun e w' => ∃ g r c', e = .returned (.slice (some g) n c') ∧ St w0 X (.own 3 r (some g) n c' (ocs l) :: L) w' := by
 have hne : ocs l ≠ [] := by
  intro h0
  have := ocs_len l
  rw [h0] at this
  simp at this
  omega
 obtain ⟨g, o, rfl, _, _⟩ := (hr w hs.hold).cells hne
 have HR := Lib.hid hr
 have HN := Lib.hid hn
 have HL := Lib.hid (ocs_len l)
 have HO := Lib.hid (ocs_one l)
 clear hr hn hne
 go_enter Try.func59, Try.ntmps59
 go_wp2_with (first | ((with_reducible refine Se.isL (o := ⟨some 5, _, _, _, _, _⟩) ?_); (refine Se.toL rfl (Se.bs0 (o := ⟨some 5, _, _, _, _, _⟩) hs rfl Try.underlying69 (by kernel_rfl) ?_); clear hs; rintro w g5 - hs; replace hs := hs.blk_own 3 0 0 (by simp) (Nat.le_refl _) (by decide); simp only [Nat.zero_mul, List.take_zero] at hs)) | ((with_reducible refine Se.isL (o := ⟨some 7, _, _, _, _, _⟩) ?_); (refine Se.toL rfl (Se.ap (o := ⟨some 7, _, _, _, _, _⟩) 0 hs rfl rfl rfl rfl ((HR.out.cons _)) Try.underlying69 one_i (one_z) (by decide) (HO.out) ((by rw [HL.out, HN.out])) ((by omega)) ((by omega)) ?_); clear hs; rintro w r B c' hs; try simp only [List.cons_append, List.nil_append, List.set_cons_zero] at hs; try simp only [Nat.zero_add, List.nil_append] at hs; try simp only [Nat.zero_add])))
 obtain ⟨gb, ob, rfl, rfl⟩ := hs.own_at 0 rfl (by omega)
 go_ret
 exact ⟨_, _, _, rfl, hs⟩
theorem copy_st {g cc : Nat} {z : Zs} {A : Option Addr} (hs : St w0 X (pZ g z A cc :: L) w) (hr : Reads L A (ocs z.l)) (hn1 : 1 ≤ z.l.length) (hle : z.l.length ≤ 4194304) : Calls Try.prog 24 #[.pointer (some ⟨g, 0, none⟩)] w fun e w' => ∃ g' a' r' c', e = .returned (.pointer (some ⟨g', 0, none⟩)) ∧ St w0 X (pZ g' z (some a') c' :: pL r' (some a') c' z :: pZ g z A cc :: L) w' := by
 have hne : ocs z.l ≠ [] := by
  intro h0
  have := ocs_len z.l
  rw [h0] at this
  simp at this
  omega
 obtain ⟨gl, ol, rfl, _, _⟩ := (hr w (fun a ha => hs.hold a (List.mem_cons_of_mem _ ha))).cells hne
 have CN : Hid (∀ (w : World), St w0 X (pZ g z (some ⟨gl, ol, none⟩) cc :: L) w → Calls Try.prog 42 #[.pointer (some ⟨g, 0, none⟩)] w fun e w' => e = .returned (.bool false) ∧ St w0 X (pZ g z (some ⟨gl, ol, none⟩) cc :: L) w') := Lib.hid (fun w hs => none_st hs (by simp))
 obtain ⟨RL, hRL⟩ : ∃ RL, RL = zcl z (some ⟨gl, ol, none⟩) cc := ⟨_, rfl⟩
 obtain ⟨n, hn⟩ : ∃ n, n = z.l.length := ⟨_, rfl⟩
 have R5 := Lib.hid (show RL[5]? = some (.slice (some ⟨gl, ol, none⟩) n cc) by rw [hRL, hn]; rfl)
 have RLen := Lib.hid (show RL.length = 7 by rw [hRL]; rfl)
 have RO := Lib.hid (show ∀ v ∈ RL, v.oneCell' = true by rw [hRL]; exact zcl_one _ _ _)
 have HRL2 : Hid (∀ a' c', RL.set 5 (.slice (some a') n c') = zcl z (some a') c') := Lib.hid (fun a' c' => by rw [hRL, hn]; rfl)
 have HR := Lib.hid hr
 have HN := Lib.hid hn
 have HRL := Lib.hid hRL
 have ZL := Lib.hid (show (zcl { c := ⟨0, 0, 0, 0, 0⟩, l := [] } none 0).length = 7 from rfl)
 have h1 : 1 ≤ n := by omega
 have h2 : n ≤ 4194304 := by omega
 simp only [pZ, pL] at hs CN ⊢
 rw [← hRL] at hs CN ⊢
 rw [← hn]
 clear hRL hr hn hn1 hle hne
 go_enter Try.func24, Try.ntmps24
 go_wp2_with (first | ((with_reducible refine Se.isL (o := ⟨some 8, _, _, _, _, _⟩) ?_); (refine Se.toL rfl (Se.ldw (o := ⟨some 8, _, _, _, _, _⟩) hs rfl rfl ((Reads.blk 0 rfl)) ((by rw [RLen.out]; kernel_rfl)) (by kernel_rfl) ?_))) | ((with_reducible refine Se.isL (o := ⟨some 3, _, _, _, _, _⟩) ?_); (refine Se.toL rfl (Se.al (o := ⟨some 3, _, _, _, _, _⟩) hs rfl (zZs) ?_); clear hs; rintro w g3 - hs)) | ((with_reducible refine Se.isL (o := ⟨none, _, _, _, _, _⟩) ?_); (refine Se.toL rfl (Se.sow 0 hs rfl rfl rfl rfl (RO.out) ((by rw [RLen.out]; kernel_rfl)) ((by rw [RLen.out, ZL.out])) ?_); clear hs; intro w hs; try simp only [List.cons_append, List.nil_append, List.set_cons_zero] at hs)) | ((with_reducible refine Se.isL (o := ⟨some 12, _, _, _, _, _⟩) ?_); (refine Se.toL rfl (Se.ld (o := ⟨some 12, _, _, _, _, _⟩) hs rfl rfl (Cell.blk 1 rfl R5.out) (by kernel_rfl) ?_))) | ((with_reducible refine Se.isL (o := ⟨none, _, _, _, _, _⟩) ?_); ((first | refine Se.toL rfl (Se.so 1 (v := .int _ _) hs rfl rfl rfl rfl rfl (by kernel_rfl) (by rw [RLen.out]; decide) ?_) | refine Se.toL rfl (Se.so 1 (v := .bool _) hs rfl rfl rfl rfl rfl (by kernel_rfl) (by rw [RLen.out]; decide) ?_) | refine Se.toL rfl (Se.so 1 (v := .slice _ _ _) hs rfl rfl rfl rfl rfl (by kernel_rfl) (by rw [RLen.out]; decide) ?_) | refine Se.toL rfl (Se.so 1 (v := .pointer _) hs rfl rfl rfl rfl rfl (by kernel_rfl) (by rw [RLen.out]; decide) ?_) | refine Se.toL rfl (Se.so 1 (v := .string _) hs rfl rfl rfl rfl rfl (by kernel_rfl) (by rw [RLen.out]; decide) ?_) | refine Se.toL rfl (Se.so 1 (v := .map _) hs rfl rfl rfl rfl rfl (by kernel_rfl) (by rw [RLen.out]; decide) ?_) | refine Se.toL rfl (Se.so 1 (v := .func _ _ _) hs rfl rfl rfl rfl rfl (by kernel_rfl) (by rw [RLen.out]; decide) ?_) | refine Se.toL rfl (Se.so 1 (v := .nilFunc) hs rfl rfl rfl rfl rfl (by kernel_rfl) (by rw [RLen.out]; decide) ?_)); clear hs; intro w hs; try simp only [List.cons_append, List.nil_append, List.set_cons_zero, List.set_cons_succ] at hs)) | (go_at_call 42; refine Calls.mono (CN.out _ hs) ?_; clear hs; rintro e w ⟨rfl, hs⟩) | (go_at_call 59; refine Calls.mono (clone_st hs (HR.out.app [_, _]) HN.out h1 h2) ?_; clear hs; rintro e w ⟨a', r', c', rfl, hs⟩))
 go_ret
 rw [HRL2.out] at hs
 refine ⟨g3, a', r', c', rfl, ?_⟩
 exact hs.perm (List.Perm.swap _ _ _)
end Zo
end Go.Proofs.Ythpgkkfahiglnaa


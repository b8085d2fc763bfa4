/- Layer 1 as layer 38 uses it: Put, a writer and its methods. No condition but Go's own limits. -/
import Derived.Test.YtakdoijemopejaaGreatAuSpec
set_option linter.unusedSimpArgs false
set_option linter.unusedVariables false
namespace Go.Proofs.YtakdoijemopejaaGreat
open Go Go.RowKit
namespace Au
open Se (St At Reads Cell)
open Li (v8 v8_one Rd)
open Bv (n8 n16 n32 n64)
variable {w0 w : World} {X : List Nat} {L : List At}
attribute [local irreducible] Calls
theorem u8i3 : (Tryz.prog.info? 5).map (fun i => (i.zero, i.size, i.bytes)) = some (some (.int .u8 0), 1, 1) := by kernel_rfl
theorem Rd_cell {w : World} {A : Option Addr} {xs : List Value} (h : Rd w A xs) (i : Nat) {v : Value} (hv : xs[i]? = some v) : ∃ g off, A = some ⟨g, off, none⟩ ∧ w.cell? ⟨g, off + i, none⟩ = some v := by
 have hi := (List.getElem?_eq_some_iff.1 hv).1
 obtain ⟨g, off, e, -, c⟩ := h.cells (by intro e; rw [e] at hi; simp at hi)
 refine ⟨g, off, e, ?_⟩
 rw [c i hi, ← hv, List.getElem?_eq_getElem hi]
theorem v8_at (bs : List (BitVec 8)) (i : Nat) (h : i < bs.length) : (bs.map v8)[i]? = some (.int .u8 (n8 (bs.getD i 0#8))) := by simp [h]
theorem zs_flat (n : Nat) : (List.replicate n ((Value.int .u8 0).cells.toList)).flatten = (List.replicate n 0#8).map v8 := by
 induction n with
 | zero => rfl
 | succ n ih => rw [List.replicate_succ, List.flatten_cons, ih]; rfl
def PL (v : BitVec 64) (k i : Nat) : List Value := (putL v i ++ List.replicate (k - i) 0#8).map v8
theorem PL_set (v : BitVec 64) (k i : Nat) (h : i < k) : (PL v k i).set i (.int .u8 (n8 ((v >>> (8 * i)).setWidth 8))) = PL v k (i + 1) := by
 unfold PL
 rw [putL_snoc, show k - i = (k - (i + 1)) + 1 by omega, List.replicate_succ, List.map_append, List.map_append, List.map_append, List.set_append_right _ _ (by simp [putL_length])]
 simp [putL_length]
theorem PL_len (v : BitVec 64) (k i : Nat) (h : i ≤ k) : (PL v k i).length = k := by unfold PL; simp [putL_length]; omega
section
attribute [local go_sem] Bv.of_n64 Bv.wrap_n8_of Bv.of8_n64
attribute [local go_sem ↓] Bv.shr_n64
set_option maxRecDepth 100000 in
set_option maxHeartbeats 4000000 in
theorem put_st (hs : St w0 X L w) (v : BitVec 64) (k : Nat) (h1 : 1 ≤ k) (h7 : k ≤ 7) (hf : v >>> (8 * k) = 0#64) :
  Calls Tryz.prog 56 #[.int .u64 (n64 v), .int .i64 k] w fun e w' => ∃ r A c, e = .returned (.tuple #[.slice A k c, .int .i64 0]) ∧ St w0 X (.own 1 r A k c ((putL v k).map v8) :: L) w' := by
 have d1 : decide ((k : Int) < 1) = false := by simp; omega
 have d2 : decide (8 < (k : Int)) = false := by simp; omega
 have d3 : decide ((k : Int) < 8) = true := by simp; omega
 have h8 : (0 : Int) ≤ 8 * (k : Int) := by omega
 have d4 : decide (0 < n64 (v >>> (8 * k))) = false := by rw [hf]; rfl
 have H1 := Lib.hid h1
 have H7 := Lib.hid h7
 clear hf
 go_enter Tryz.func56, Tryz.ntmps56
 go_upto_region 6 with (first | (with_reducible refine Se.isL (o := ⟨some 26, _, _, _, _, _⟩) ?_; refine Se.toL rfl (Se.mk (o := ⟨some 26, _, _, _, _, _⟩) hs rfl Tryz.underlying22 u8i3 rfl k k rfl rfl rfl rfl (Nat.le_refl _) (by have := H7.out; omega) (by have := H7.out; omega) ?_); clear hs; rintro w g26 - hs))
 rw [zs_flat] at hs
 replace hs := hs.blk_own 1 k k (by simp) (Nat.le_refl _) (by have := H7.out; unfold maxLen; omega)
 rw [List.take_of_length_le (by simp), show (List.replicate k 0#8).map v8 = PL v k 0 by simp [PL, putL]] at hs
 clear d1 d2 d3 d4 h8
 go_wp2_with fail
 go_loopg [29] k (fun gh s29 wr => ∃ (i : Nat), gh = k - i ∧ i ≤ k ∧ s29 = .int .i64 i ∧ St w0 X (.own 1 (some g26) (some ⟨g26, 0, none⟩) k k (PL v k i) :: L) wr)
 case atStart => exact ⟨0, rfl, by omega, rfl, hs⟩
 case round =>
  clear hs
  rename World => w
  obtain ⟨i, rfl, hi, rfl, hs⟩ := hrel
  by_cases hlt : i < k
  ·have hlt' : (i : Int) < (k : Int) := by omega
   have h8 : (0 : Int) ≤ 8 * (i : Int) := by omega
   go_wp2_with (first | ((with_reducible refine Se.isL (o := ⟨none, _, _, _, _, _⟩) ?_); ((first | refine Se.toL rfl (Se.sooe 0 (v := .int _ _) hs rfl rfl rfl rfl rfl (by kernel_rfl) ((by omega)) ((by rw [PL_len _ _ _ hi]; exact hlt)) ((PL_set v k i hlt)) ?_) | refine Se.toL rfl (Se.sooe 0 (v := .bool _) hs rfl rfl rfl rfl rfl (by kernel_rfl) ((by omega)) ((by rw [PL_len _ _ _ hi]; exact hlt)) ((PL_set v k i hlt)) ?_) | refine Se.toL rfl (Se.sooe 0 (v := .slice _ _ _) hs rfl rfl rfl rfl rfl (by kernel_rfl) ((by omega)) ((by rw [PL_len _ _ _ hi]; exact hlt)) ((PL_set v k i hlt)) ?_) | refine Se.toL rfl (Se.sooe 0 (v := .pointer _) hs rfl rfl rfl rfl rfl (by kernel_rfl) ((by omega)) ((by rw [PL_len _ _ _ hi]; exact hlt)) ((PL_set v k i hlt)) ?_) | refine Se.toL rfl (Se.sooe 0 (v := .string _) hs rfl rfl rfl rfl rfl (by kernel_rfl) ((by omega)) ((by rw [PL_len _ _ _ hi]; exact hlt)) ((PL_set v k i hlt)) ?_) | refine Se.toL rfl (Se.sooe 0 (v := .map _) hs rfl rfl rfl rfl rfl (by kernel_rfl) ((by omega)) ((by rw [PL_len _ _ _ hi]; exact hlt)) ((PL_set v k i hlt)) ?_) | refine Se.toL rfl (Se.sooe 0 (v := .func _ _ _) hs rfl rfl rfl rfl rfl (by kernel_rfl) ((by omega)) ((by rw [PL_len _ _ _ hi]; exact hlt)) ((PL_set v k i hlt)) ?_) | refine Se.toL rfl (Se.sooe 0 (v := .nilFunc) hs rfl rfl rfl rfl rfl (by kernel_rfl) ((by omega)) ((by rw [PL_len _ _ _ hi]; exact hlt)) ((PL_set v k i hlt)) ?_)); clear hs; intro w hs; try simp only [List.cons_append, List.nil_append, List.set_cons_zero] at hs)))
   go_roundg (k - (i + 1))
   case measure => omega
   case rel => exact ⟨i + 1, rfl, by omega, by go_num, hs⟩
  ·obtain rfl : i = k := by omega
   go_wp2_with fail
   go_ret2
   exact ⟨_, _, _, rfl, by simpa [PL] using hs⟩
end
def fcl (l : List (BitVec 64 × Nat)) : List Value := l.flatMap fun p => [.int .u64 (n64 p.1), .int .i64 p.2]
theorem fcl_len (l : List (BitVec 64 × Nat)) : (fcl l).length = l.length * 2 := by
 induction l with
 | nil => rfl
 | cons a l ih => unfold fcl at ih ⊢; rw [List.flatMap_cons, List.length_append, ih]; simp; omega
theorem fcl_at (l : List (BitVec 64 × Nat)) (i : Nat) (h : i < l.length) : ((fcl l).drop (i * 2)).take 2 = [.int .u64 (n64 l[i].1), .int .i64 l[i].2] := by
 induction l generalizing i with
 | nil => simp at h
 | cons a l ih =>
  match i with
  | 0 => rfl
  | i + 1 =>
   have := ih i (by simpa using h)
   rw [show (i + 1) * 2 = i * 2 + 1 + 1 by omega]
   exact this
def okf (p : BitVec 64 × Nat) : Prop := 1 ≤ p.2 ∧ p.2 ≤ 7 ∧ p.1 >>> (8 * p.2) = 0#64
set_option maxRecDepth 100000 in
set_option maxHeartbeats 4000000 in
theorem addAll1_st (hs : St w0 X L w) (p : BitVec 64 × Nat) (h : okf p) :
  Calls Tryz.prog 55 #[.agg #[.int .u64 (n64 p.1), .int .i64 p.2]] w fun e w' => ∃ r A c, e = .returned (.tuple #[.slice A p.2 c, .int .i64 0]) ∧ St w0 X (.own 1 r A p.2 c ((putL p.1 p.2).map v8) :: L) w' := by
 obtain ⟨v, k⟩ := p
 have C : Hid (∀ (L' : List At) (w : World), St w0 X (L' ++ L) w → Calls Tryz.prog 56 #[.int .u64 (n64 v), .int .i64 k] w fun e w' => ∃ r A c, e = .returned (.tuple #[.slice A k c, .int .i64 0]) ∧ St w0 X (.own 1 r A k c ((putL v k).map v8) :: (L' ++ L)) w') := Lib.hid (fun L' w hs => put_st hs v k h.1 h.2.1 h.2.2)
 clear h
 go_enter Tryz.func55, Tryz.ntmps55
 go_wp2_with (first | ((with_reducible refine Se.isL (o := ⟨some 5, _, _, _, _, _⟩) ?_); (refine Se.toL rfl (Se.ld (o := ⟨some 5, _, _, _, _, _⟩) hs rfl rfl (Cell.blk 0 rfl rfl) (by kernel_rfl) ?_))) | ((with_reducible refine Se.isL (o := ⟨some 7, _, _, _, _, _⟩) ?_); (refine Se.toL rfl (Se.ld (o := ⟨some 7, _, _, _, _, _⟩) hs rfl rfl (Cell.blk 0 rfl rfl) (by kernel_rfl) ?_))) | ((first | with_reducible refine Se.ab hs ?_ | with_reducible refine Se.abc hs ?_); clear hs; (first | (generalize w.heap.size = g1; intro w hs))) | (go_at_call 56; refine Calls.mono (C.out [_] _ hs) ?_; clear hs; rintro e w ⟨r, A, c, rfl, hs⟩))
 go_ret2
 exact ⟨r, A, c, rfl, (hs.perm (List.Perm.swap _ _ _)).drop⟩
theorem fieldI : (Tryz.prog.info? 92).bind (fun i => i.zero.map (·.cells.toList)) = some [.int .u64 0, .int .i64 0] := by kernel_rfl
set_option maxRecDepth 100000 in
set_option maxHeartbeats 4000000 in
theorem each_st (hs : St w0 X L w) (l : List (BitVec 64 × Nat)) {S : Option Addr} {n cap : Nat} (hn : n = l.length) (hS : Reads L S (fcl l)) (hok : ∀ p ∈ l, okf p) (hn9 : n ≤ 100) :
  Calls Tryz.prog 54 #[.slice S n cap, .func (.func 55) #[] #[]] w fun e w' => ∃ r A c, e = .returned (.tuple #[.slice A (fb l).length c, .int .i64 0]) ∧ St w0 X (.own 1 r A (fb l).length c ((fb l).map v8) :: L) w' := by
 have HN := Lib.hid hn
 have HK := Lib.hid hok
 have HL : Hid (∀ i, i ≤ n → (fb (l.take i)).length ≤ 7 * i) := Lib.hid (by
  intro i
  induction i with
  | zero => intro _; simp [fb]
  | succ i ih =>
   intro hi
   have hil : i < l.length := by omega
   rw [fb_snoc l i hil, List.length_append, putL_length]
   have := ih (by omega)
   have := (hok _ (List.getElem_mem hil)).2.1
   omega)
 replace hs := hs.nil_own 1 none
 clear hn hok
 go_enter Tryz.func54, Tryz.ntmps54
 go_wp2_with fail
 go_loopg [4, 12] n (fun gh s4 s12 wr => ∃ (i : Nat) (r : Option Nat) (B : Option Addr) (c' m : Nat), gh = n - i ∧ i ≤ n ∧ s12 = .int .i64 i ∧ s4 = .slice B m c' ∧ Hid (m = (fb (l.take i)).length) ∧ St w0 X (.own 1 r B m c' ((fb (l.take i)).map v8) :: L) wr)
 case atStart => exact ⟨0, none, none, 0, 0, rfl, by omega, rfl, rfl, Lib.hid rfl, hs⟩
 case round =>
  clear hs
  rename World => w
  obtain ⟨i, r, B, c', m, rfl, hi, rfl, rfl, HM, hs⟩ := hrel
  by_cases hlt : i < n
  ·have hlt' : (i : Int) < (n : Int) := by omega
   have hil : i < l.length := by have := HN.out; omega
   obtain ⟨p, hp⟩ : ∃ p, p = l[i] := ⟨_, rfl⟩
   have HP := Lib.hid (show okf p by rw [hp]; exact HK.out _ (List.getElem_mem hil))
   have FS := Lib.hid (show fb (l.take (i + 1)) = fb (l.take i) ++ putL p.1 p.2 by rw [hp]; exact fb_snoc l i hil)
   have hml : m ≤ 700 := by have := HL.out i hi; have := HM.out; omega
   have hpl : p.2 ≤ 7 := HP.out.2.1
   have FA := fcl_at l i hil
   rw [← hp] at FA
   obtain ⟨g, off, rfl⟩ : ∃ g off, S = some ⟨g, off, none⟩ := by
    obtain ⟨g, off, h, _⟩ := (hS w (fun a ha => hs.hold a (List.mem_cons_of_mem _ ha))).cells (by intro e; have h2 := fcl_len l; rw [e] at h2; simp at h2; omega)
    exact ⟨g, off, h⟩
   have hrow : Reads L (some ⟨g, off + i * 2, none⟩) [.int .u64 (n64 p.1), .int .i64 p.2] := by
    have := (hS.at (i * 2)).take 2
    rwa [FA] at this
   obtain ⟨v, k⟩ := p
   clear hp FA hil
   simp only at hrow hpl
   go_wp2_with (first | ((with_reducible refine Se.isL (o := ⟨some 15, _, _, _, _, _⟩) ?_); (refine Se.toL rfl (Se.ldw (o := ⟨some 15, _, _, _, _, _⟩) hs rfl rfl ((hrow.cons _)) ((by kernel_rfl)) (by kernel_rfl) ?_))) | ((with_reducible refine Se.isL (o := ⟨some 7, _, _, _, _, _⟩) ?_); (refine Se.toL rfl (Se.al (o := ⟨some 7, _, _, _, _, _⟩) hs rfl (fieldI) ?_); clear hs; rintro w g7 - hs)) | ((with_reducible refine Se.isL (o := ⟨none, _, _, _, _, _⟩) ?_); (refine Se.toL rfl (Se.sow 0 hs rfl rfl rfl rfl ((by simp [Value.oneCell'])) ((by kernel_rfl)) (rfl) ?_); clear hs; intro w hs; try simp only [List.cons_append, List.nil_append, List.set_cons_zero] at hs)) | ((with_reducible refine Se.isL (o := ⟨some 18, _, _, _, _, _⟩) ?_); (refine Se.toL rfl (Se.ldw (o := ⟨some 18, _, _, _, _, _⟩) hs rfl rfl ((Reads.blk 0 rfl)) ((by kernel_rfl)) (by kernel_rfl) ?_))) | ((with_reducible refine Se.isL (o := ⟨some 27, _, _, _, _, _⟩) ?_); (refine Se.toL rfl (Se.ap (o := ⟨some 27, _, _, _, _, _⟩) 2 hs rfl rfl rfl rfl ((Reads.own 0 rfl)) Tryz.underlying22 u8i3 rfl (by decide) ((v8_one _)) ((by rw [List.length_map, putL_length, Nat.mul_one])) ((by omega)) ((by omega)) ?_); clear hs; rintro w r' B' c'' hs; try simp only [List.cons_append, List.nil_append, List.set_cons_zero, List.set_cons_succ] at hs)) | (go_at_call 55; refine Calls.mono (addAll1_st hs (v, k) HP.out) ?_; clear hs; rintro e w ⟨r2, A2, c2, rfl, hs⟩))
   go_roundg (n - (i + 1))
   case measure => omega
   case rel =>
    refine ⟨i + 1, r', B', c'', m + k, rfl, by omega, by go_num, rfl, Lib.hid (by rw [FS.out, List.length_append, putL_length, HM.out]), ?_⟩
    rw [FS.out, List.map_append]
    simpa using hs.drop.drop
  ·obtain rfl : i = n := by omega
   have HE := HM.out
   rw [List.take_of_length_le (by have := HN.out; omega)] at hs HE
   clear HM
   have HE := Lib.hid HE
   go_wp2_with fail
   go_ret2
   rw [← HE.out]
   exact ⟨r, B, c', rfl, hs⟩
abbrev wB (g : Nat) (A : Option Addr) (n c : Nat) : At := .blk g 88 [.slice A n c]
set_option maxRecDepth 100000 in
set_option maxHeartbeats 4000000 in
theorem add_st {g : Nat} {r A : _} {c n m d q : Nat} {bs ys : Bs} {B : Option Addr} (hs : St w0 X (wB g A n c :: .own 1 r A n c (bs.map v8) :: L) w) (hr : Reads L B (ys.map v8)) (hm : m = ys.length) (hq : q = n + m) (hb : q ≤ 1000) :
  Calls Tryz.prog 53 #[.pointer (some ⟨g, 0, none⟩), .slice B m d, .int .i64 0] w fun e w' => ∃ r A c, e = .returned (.int .i64 0) ∧ St w0 X (wB g A q c :: .own 1 r A q c ((bs ++ ys).map v8) :: L) w' := by
 have HM := Lib.hid hm
 have hd : decide (1048576 - (n : Int) < (m : Int)) = false := by simp; omega
 have hnm : n + m ≤ 1000 := by omega
 have HQ := Lib.hid hq
 simp only [wB] at hs ⊢
 clear hm hq hb
 go_enter Tryz.func53, Tryz.ntmps53
 go_wp2_with (first | ((with_reducible refine Se.isL (o := ⟨some 20, _, _, _, _, _⟩) ?_); (refine Se.toL rfl (Se.ld (o := ⟨some 20, _, _, _, _, _⟩) hs rfl rfl (Cell.blk 0 rfl rfl) (by kernel_rfl) ?_))) | ((with_reducible refine Se.isL (o := ⟨some 28, _, _, _, _, _⟩) ?_); (refine Se.toL rfl (Se.ld (o := ⟨some 28, _, _, _, _, _⟩) hs rfl rfl (Cell.blk 0 rfl rfl) (by kernel_rfl) ?_))) | ((with_reducible refine Se.isL (o := ⟨some 30, _, _, _, _, _⟩) ?_); (refine Se.toL rfl (Se.ap (o := ⟨some 30, _, _, _, _, _⟩) 1 hs rfl rfl rfl rfl ((hr.mono (by intro _ h; simp only [List.mem_cons, h, or_true]))) Tryz.underlying22 u8i3 rfl (by decide) ((v8_one _)) ((by rw [List.length_map, HM.out, Nat.mul_one])) ((by omega)) ((by omega)) ?_); clear hs; rintro w r' A' c' hs; try simp only [List.cons_append, List.nil_append, List.set_cons_zero, List.set_cons_succ] at hs)) | ((with_reducible refine Se.isL (o := ⟨none, _, _, _, _, _⟩) ?_); ((first | refine Se.toL rfl (Se.so 0 (v := .int _ _) hs rfl rfl rfl rfl rfl (by kernel_rfl) (by simp) ?_) | refine Se.toL rfl (Se.so 0 (v := .bool _) hs rfl rfl rfl rfl rfl (by kernel_rfl) (by simp) ?_) | refine Se.toL rfl (Se.so 0 (v := .slice _ _ _) hs rfl rfl rfl rfl rfl (by kernel_rfl) (by simp) ?_) | refine Se.toL rfl (Se.so 0 (v := .pointer _) hs rfl rfl rfl rfl rfl (by kernel_rfl) (by simp) ?_) | refine Se.toL rfl (Se.so 0 (v := .string _) hs rfl rfl rfl rfl rfl (by kernel_rfl) (by simp) ?_) | refine Se.toL rfl (Se.so 0 (v := .map _) hs rfl rfl rfl rfl rfl (by kernel_rfl) (by simp) ?_) | refine Se.toL rfl (Se.so 0 (v := .func _ _ _) hs rfl rfl rfl rfl rfl (by kernel_rfl) (by simp) ?_) | refine Se.toL rfl (Se.so 0 (v := .nilFunc) hs rfl rfl rfl rfl rfl (by kernel_rfl) (by simp) ?_)); clear hs; intro w hs; try simp only [List.cons_append, List.nil_append, List.set_cons_zero] at hs)))
 go_ret
 rw [HQ.out, List.map_append]
 exact ⟨r', A', c', rfl, hs⟩
set_option maxRecDepth 100000 in
set_option maxHeartbeats 4000000 in
theorem addBytes_st {g : Nat} {r A : _} {c n m d q : Nat} {bs ys : Bs} {B : Option Addr} (hs : St w0 X (wB g A n c :: .own 1 r A n c (bs.map v8) :: L) w) (hr : Reads L B (ys.map v8)) (hm : m = ys.length) (hq : q = n + m) (hb : q ≤ 1000) :
  Calls Tryz.prog 43 #[.pointer (some ⟨g, 0, none⟩), .slice B m d] w fun e w' => ∃ r A c, e = .returned (.int .i64 0) ∧ St w0 X (wB g A q c :: .own 1 r A q c ((bs ++ ys).map v8) :: L) w' := by
 have C := Lib.hid (add_st (d := d) hs hr hm hq hb)
 clear hr hm hq hb
 go_enter Tryz.func43, Tryz.ntmps43
 go_wp2_with (first | (go_at_call 53; refine Calls.mono (C.out) ?_; clear hs; rintro e w ⟨r, A, c, rfl, hs⟩))
 go_ret
 exact ⟨r, A, c, rfl, hs⟩
theorem _root_.Go.Proofs.YtakdoijemopejaaGreat.Se.St.rot3 {a b c : At} (h : St w0 X (a :: b :: c :: L) w) : St w0 X (b :: c :: a :: L) w := h.perm ((List.Perm.swap _ _ _).trans (List.Perm.cons _ (List.Perm.swap _ _ _)))
set_option maxRecDepth 100000 in
set_option maxHeartbeats 4000000 in
theorem add1_st {g : Nat} {r A : _} {c n q : Nat} {bs : Bs} (hs : St w0 X (wB g A n c :: .own 1 r A n c (bs.map v8) :: L) w) (p : BitVec 64 × Nat) (hp : okf p) (hq : q = n + p.2) (hb : q ≤ 1000) :
  Calls Tryz.prog 49 #[.pointer (some ⟨g, 0, none⟩), .int .u64 (n64 p.1), .int .i64 p.2] w fun e w' => ∃ r A c, e = .returned (.int .i64 0) ∧ St w0 X (wB g A q c :: .own 1 r A q c ((bs ++ putL p.1 p.2).map v8) :: L) w' := by
 have C := Lib.hid (put_st hs p.1 p.2 hp.1 hp.2.1 hp.2.2)
 have C2 : Hid (∀ (L' : List At) (w : World) (B : Option Addr) (r2 : Option Nat) (c2 : Nat), St w0 X (.own 1 r2 B p.2 c2 ((putL p.1 p.2).map v8) :: wB g A n c :: .own 1 r A n c (bs.map v8) :: L) w → Calls Tryz.prog 53 #[.pointer (some ⟨g, 0, none⟩), .slice B p.2 c2, .int .i64 0] w fun e w' => ∃ r A c, e = .returned (.int .i64 0) ∧ St w0 X (wB g A q c :: .own 1 r A q c ((bs ++ putL p.1 p.2).map v8) :: L) w') := Lib.hid (fun L' w B r2 c2 h => by
  refine (add_st (L := .own 1 r2 B p.2 c2 ((putL p.1 p.2).map v8) :: L) (d := c2) h.rot3 (Reads.own 0 rfl) (putL_length _ _).symm hq hb).mono ?_
  rintro e w' ⟨r, A, c, rfl, h⟩
  exact ⟨r, A, c, rfl, h.rot3.rot3.drop⟩)
 obtain ⟨v, k⟩ := p
 clear hp hq hb
 go_enter Tryz.func49, Tryz.ntmps49
 go_wp2_with (first | (go_at_call 56; refine Calls.mono (C.out) ?_; clear hs; rintro e w ⟨r2, A2, c2, rfl, hs⟩) | (go_at_call 53; refine Calls.mono (C2.out [] _ _ _ _ hs) ?_; clear hs; rintro e w ⟨r, A, c, rfl, hs⟩))
 go_ret
 exact ⟨r, A, c, rfl, hs⟩
set_option maxRecDepth 100000 in
set_option maxHeartbeats 4000000 in
theorem addAll_st {g : Nat} {r A : _} {c n q k cap : Nat} {bs : Bs} (hs : St w0 X (wB g A n c :: .own 1 r A n c (bs.map v8) :: L) w) (l : List (BitVec 64 × Nat)) {S : Option Addr} (hk : k = l.length) (hS : Reads L S (fcl l)) (hok : ∀ p ∈ l, okf p) (hk9 : k ≤ 100) (hq : q = n + (fb l).length) (hb : q ≤ 1000) :
  Calls Tryz.prog 42 #[.pointer (some ⟨g, 0, none⟩), .slice S k cap] w fun e w' => ∃ r A c, e = .returned (.int .i64 0) ∧ St w0 X (wB g A q c :: .own 1 r A q c ((bs ++ fb l).map v8) :: L) w' := by
 have C := Lib.hid (each_st hs l (cap := cap) hk ((hS.cons _).cons _) hok hk9)
 obtain ⟨F, hF⟩ : ∃ F, F = fb l := ⟨_, rfl⟩
 obtain ⟨m, hm⟩ : ∃ m, m = F.length := ⟨_, rfl⟩
 rw [← hF] at C ⊢ hq
 rw [← hm] at C hq
 have C2 : Hid (∀ (w : World) (B : Option Addr) (r2 : Option Nat) (c2 : Nat), St w0 X (.own 1 r2 B m c2 (F.map v8) :: wB g A n c :: .own 1 r A n c (bs.map v8) :: L) w → Calls Tryz.prog 53 #[.pointer (some ⟨g, 0, none⟩), .slice B m c2, .int .i64 0] w fun e w' => ∃ r A c, e = .returned (.int .i64 0) ∧ St w0 X (wB g A q c :: .own 1 r A q c ((bs ++ F).map v8) :: L) w') := Lib.hid (fun w B r2 c2 h => by
  refine (add_st (L := .own 1 r2 B m c2 (F.map v8) :: L) (d := c2) h.rot3 (Reads.own 0 rfl) hm hq hb).mono ?_
  rintro e w' ⟨r, A, c, rfl, h⟩
  exact ⟨r, A, c, rfl, h.rot3.rot3.drop⟩)
 clear hF hm hq hb hok hS hk
 go_enter Tryz.func42, Tryz.ntmps42
 go_wp2_with (first | (go_at_call 54; refine Calls.mono (C.out) ?_; clear hs; rintro e w ⟨r2, A2, c2, rfl, hs⟩) | (go_at_call 53; refine Calls.mono (C2.out _ _ _ _ hs) ?_; clear hs; rintro e w ⟨r, A, c, rfl, hs⟩))
 go_ret
 exact ⟨r, A, c, rfl, hs⟩
set_option maxRecDepth 100000 in
set_option maxHeartbeats 4000000 in
theorem bytes_st {g : Nat} {r A : _} {c n : Nat} {bs : Bs} (hs : St w0 X (wB g A n c :: .own 1 r A n c (bs.map v8) :: L) w) (hn : n = bs.length) (hb : n ≤ 1000) :
  Calls Tryz.prog 44 #[.pointer (some ⟨g, 0, none⟩)] w fun e w' => ∃ r2 A2 c2, e = .returned (.slice A2 n c2) ∧ St w0 X (.own 1 r2 A2 n c2 (bs.map v8) :: L) w' := by
 have C := Lib.hid (clone_st hs (c := c) (Reads.own 1 rfl) (v8_one bs) (by simpa using hn) (by omega))
 clear hn hb
 go_enter Tryz.func44, Tryz.ntmps44
 go_wp2_with (first | ((with_reducible refine Se.isL (o := ⟨some 8, _, _, _, _, _⟩) ?_); (refine Se.toL rfl (Se.ld (o := ⟨some 8, _, _, _, _, _⟩) hs rfl rfl (Cell.blk 0 rfl rfl) (by kernel_rfl) ?_))) | (go_at_call 40; refine Calls.mono (C.out) ?_; clear hs; rintro e w ⟨A2, c2, r2, rfl, hs⟩))
 go_ret
 exact ⟨r2, A2, c2, rfl, hs.rot3.drop.drop⟩
end Au
end Go.Proofs.YtakdoijemopejaaGreat

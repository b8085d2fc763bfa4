/- The walk of HMAC's closure: a pad mixed with a byte. -/
import Derived.Test.YtakdoijemopejaaGreatSepLib
set_option maxRecDepth 100000
set_option linter.unusedSimpArgs false
set_option linter.unusedVariables false
namespace Go.Proofs.YtakdoijemopejaaGreat
open Go Go.RowKit
open Se Li
namespace Sha
open Bv (n8 n16 n32 n64)
attribute [local go_sem ↓] Bv.xor_n8
attribute [local go_sem] Bv.of_n8
def mixN (x : BitVec 8) (pad : List (BitVec 8)) (k : Nat) : List (BitVec 8) := (pad.take k).map (· ^^^ x) ++ pad.drop k
theorem mixN_length (x : BitVec 8) (pad : List (BitVec 8)) (k : Nat) : (mixN x pad k).length = pad.length := by simp [mixN]; omega
theorem mixN_get (x : BitVec 8) (pad : List (BitVec 8)) (k : Nat) (h : k < pad.length) : ((mixN x pad k).map v8)[k]? = some (.int .u8 (n8 (pad.getD k 0))) := by
 unfold mixN
 rw [List.map_append, List.getElem?_append_right (by simp; omega)]
 simp [h, Nat.min_eq_left (Nat.le_of_lt h), v8]
theorem mixN_set (x : BitVec 8) (pad : List (BitVec 8)) (k : Nat) (h : k < pad.length) : ((mixN x pad k).map v8).set k (.int .u8 (n8 (pad.getD k 0 ^^^ x))) = (mixN x pad (k + 1)).map v8 := by
 have hl : ((pad.take k).map (· ^^^ x)).length = k := by simp; omega
 have e : pad.getD k 0 = pad[k] := by simp [h]
 show ((mixN x pad k).map v8).set k (v8 _) = _
 unfold mixN
 rw [e, ← List.map_set, List.set_append_right _ _ (by omega), hl, Nat.sub_self, List.drop_eq_getElem_cons h, List.set_cons_zero, List.take_succ_eq_append_getElem h, List.map_append, List.map_append, List.map_append, List.map_append, List.append_assoc]
 rfl
set_option maxHeartbeats 1000000 in
theorem hmac1_st {w0 w : World} {X : List Nat} {L : List At} (hs : St w0 X L w) (p : Nat) (pad : List (BitVec 8)) (x : BitVec 8) {xi : Int} (hx : xi = n8 x) (hp : pad.length = 64) (hr : Reads L (some ⟨p, 0, none⟩) (pad.map v8)) :
  Calls Tryz.prog 62 #[.int .u8 xi, .pointer (some ⟨p, 0, none⟩)] w fun e w' => ∃ r A c, e = .returned (.slice A 64 c) ∧ St w0 X (.own 1 r A 64 c ((pad.map (· ^^^ x)).map v8) :: L) w' := by
 subst hx
 have HP := Lib.hid hp
 clear hp
 go_enter Tryz.func62, Tryz.ntmps62
 go_wp2_with (first | (go_at_call 40; refine Calls.mono (clone_st hs hr (v8_one _) (by rw [List.length_map, HP.out]) (by omega)) ?_; clear hs; rintro e w ⟨A, c, r, rfl, hs⟩))
 obtain ⟨g, off, rfl, rfl⟩ := hs.own_at 0 rfl (by omega)
 go_loopg [10] 64 (fun gh s10 wr => ∃ k : Nat, gh = 64 - k ∧ k ≤ 64 ∧ s10 = .int .i64 k ∧ St w0 X (.own 1 (some g) (some ⟨g, off, none⟩) 64 c ((mixN x pad k).map v8) :: L) wr)
 case atStart => exact ⟨0, rfl, by omega, rfl, by simpa [mixN] using hs⟩
 case round =>
  clear hs
  rename_i w
  obtain ⟨k, rfl, hk, rfl, hs⟩ := hrel
  by_cases hlt : k < 64
  ·have hki : (k : Int) < 64 := by omega
   have hv := Lib.hid (mixN_get x pad k (by rw [HP.out]; exact hlt))
   have hl := Lib.hid (show k < ((mixN x pad k).map v8).length by rw [List.length_map, mixN_length, HP.out]; exact hlt)
   obtain ⟨y, hy⟩ : ∃ y, y = pad.getD k 0 := ⟨_, rfl⟩
   rw [← hy] at hv
   have HY := Lib.hid hy
   clear hy
   go_wp2_with (first | ((with_reducible refine Se.isL (o := ⟨some 16, _, _, _, _, _⟩) ?_); (refine Se.toL rfl (Se.ld (o := ⟨some 16, _, _, _, _, _⟩) hs rfl rfl ((Reads.own 0 rfl).cell k hv.out) (by kernel_rfl) ?_))) | ((with_reducible refine Se.isL (o := ⟨none, _, _, _, _, _⟩) ?_); ((first | refine Se.toL rfl (Se.soo 0 (v := .int _ _) hs rfl rfl rfl rfl rfl (by kernel_rfl) (hl.out) ?_) | refine Se.toL rfl (Se.soo 0 (v := .bool _) hs rfl rfl rfl rfl rfl (by kernel_rfl) (hl.out) ?_) | refine Se.toL rfl (Se.soo 0 (v := .slice _ _ _) hs rfl rfl rfl rfl rfl (by kernel_rfl) (hl.out) ?_) | refine Se.toL rfl (Se.soo 0 (v := .pointer _) hs rfl rfl rfl rfl rfl (by kernel_rfl) (hl.out) ?_) | refine Se.toL rfl (Se.soo 0 (v := .string _) hs rfl rfl rfl rfl rfl (by kernel_rfl) (hl.out) ?_) | refine Se.toL rfl (Se.soo 0 (v := .map _) hs rfl rfl rfl rfl rfl (by kernel_rfl) (hl.out) ?_) | refine Se.toL rfl (Se.soo 0 (v := .func _ _ _) hs rfl rfl rfl rfl rfl (by kernel_rfl) (hl.out) ?_) | refine Se.toL rfl (Se.soo 0 (v := .nilFunc) hs rfl rfl rfl rfl rfl (by kernel_rfl) (hl.out) ?_)); clear hs; intro w hs; try simp only [List.cons_append, List.nil_append, List.set_cons_zero] at hs)))
   go_roundg (64 - (k + 1))
   case measure => omega
   case rel =>
    refine ⟨k + 1, rfl, by omega, by go_num, ?_⟩
    rw [HY.out] at hs
    rw [← mixN_set x pad k (by rw [HP.out]; exact hlt)]
    exact hs
  ·have ek : k = 64 := by omega
   subst ek
   go_wp2_with fail
   go_ret
   refine ⟨some g, some ⟨g, off, none⟩, c, rfl, ?_⟩
   have e : mixN x pad 64 = pad.map (· ^^^ x) := by
    unfold mixN
    rw [List.take_of_length_le (by rw [HP.out]; omega), List.drop_eq_nil_of_le (by rw [HP.out]; omega), List.append_nil]
   rw [e] at hs
   exact hs
end Sha
end Go.Proofs.YtakdoijemopejaaGreat


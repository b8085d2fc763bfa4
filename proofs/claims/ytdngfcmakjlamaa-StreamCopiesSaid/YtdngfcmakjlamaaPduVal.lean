/- Layer 35: PDU values as they lie in memory; what kinds ask of their own fields. No condition. -/
import Derived.Test.YtdngfcmakjlamaaPduSl
set_option linter.unusedSimpArgs false
set_option linter.unusedVariables false
namespace Go.Proofs.Ytdngfcmakjlamaa
open Go Go.RowKit
namespace Pd
open Se (St At Reads Cell)
open Li (v8 v8_one Rd)
open Bv (n8 n16 n32 n64)
variable {w0 w : World} {X : List Nat} {L : List At}
attribute [local irreducible] Calls
/-- The cells of a PDU's value: its slices lie at EA and DA. -/
def pc (h : Hd) (EA : Option Addr) (en ec : Nat) (DA : Option Addr) (dn dc : Nat) : List Value :=
 [.int .u8 (n8 h.k), .bool h.la, .bool h.su, .slice EA en ec, .int .u16 (n16 h.id), .int .u16 (n16 h.tg), .int .u32 (n32 h.of), .int .u32 (n32 h.ln), .int .u8 (n8 h.al), .int .u8 (n8 h.dg), .int .u32 (n32 h.mx), .int .u16 (n16 h.st), .int .u32 (n32 h.nf), .slice DA dn dc]
theorem pc_one (h : Hd) (EA : Option Addr) (en ec : Nat) (DA : Option Addr) (dn dc : Nat) : ∀ v ∈ pc h EA en ec DA dn dc, v.oneCell' = true := by
 intro v hv
 simp only [pc, List.mem_cons, List.not_mem_nil, or_false] at hv
 rcases hv with rfl | rfl | rfl | rfl | rfl | rfl | rfl | rfl | rfl | rfl | rfl | rfl | rfl | rfl <;> rfl
variable {h : Hd} {EA DA : Option Addr} {en ec dn dc : Nat}
/-- A test of two: the cases. -/
theorem and2 (a b : Prop) [Decidable a] [Decidable b] : (decide a = false ∧ decide (a ∧ b) = false) ∨ (a ∧ decide b = false ∧ decide (a ∧ b) = false) ∨ (a ∧ b ∧ decide (a ∧ b) = true) := by
 by_cases ha : a <;> by_cases hb : b <;> simp [ha, hb]
set_option maxRecDepth 100000 in
set_option maxHeartbeats 4000000 in
theorem always_st (hs : St w0 X L w) : Calls Try.prog 79 #[.agg (pc h EA en ec DA dn dc).toArray] w fun e w' => e = .returned (.bool true) ∧ St w0 X L w' := by
 go_enter Try.func79, Try.ntmps79
 go_wp2_with fail
 go_ret
 exact ⟨rfl, (hs.alloc _ _).drop⟩
set_option maxRecDepth 100000 in
set_option maxHeartbeats 4000000 in
theorem validReady_st (hs : St w0 X L w) : Calls Try.prog 86 #[.agg (pc h EA en ec DA dn dc).toArray] w fun e w' => e = .returned (.bool (decide (0 < h.ln.toNat))) ∧ St w0 X L w' := by
 have E : Hid (decide ((1 : Int) ≤ n32 h.ln) = decide (0 < h.ln.toNat)) := Lib.hid (by unfold n32; simp only [decide_eq_decide]; omega)
 unfold pc
 go_enter Try.func86, Try.ntmps86
 go_wp2_with (first | ((with_reducible refine Se.isL (o := ⟨some 4, _, _, _, _, _⟩) ?_); (refine Se.toL rfl (Se.ld (o := ⟨some 4, _, _, _, _, _⟩) hs rfl rfl (Cell.blk 0 rfl rfl) (by kernel_rfl) ?_))) | ((first | with_reducible refine Se.ab hs ?_ | with_reducible refine Se.abc hs ?_); clear hs; (first | (generalize w.heap.size = g1; intro w hs))))
 go_ret
 exact ⟨by rw [← E.out]; rfl, hs.drop⟩
set_option maxRecDepth 100000 in
set_option maxHeartbeats 4000000 in
theorem validInit_st (hs : St w0 X L w) : Calls Try.prog 75 #[.agg (pc h EA en ec DA dn dc).toArray] w fun e w' => e = .returned (.bool (decide (h.al.toNat ≤ 31 ∧ h.dg.toNat ≤ 3))) ∧ St w0 X L w' := by
 have E : Hid (decide (h.al.toNat ≤ 31 ∧ h.dg.toNat ≤ 3) = decide (n8 h.al ≤ 31 ∧ n8 h.dg ≤ 3)) := Lib.hid (by unfold n8; simp only [decide_eq_decide]; omega)
 have hc := and2 (n8 h.al ≤ 31) (n8 h.dg ≤ 3)
 unfold pc
 rcases hc with ⟨h1, h3⟩ | ⟨h1, h2, h3⟩ | ⟨h1, h2, h3⟩
 ·have H3 := Lib.hid h3
  clear h3
  go_enter Try.func75, Try.ntmps75
  go_wp2_with (first | ((with_reducible refine Se.isL (o := ⟨some 4, _, _, _, _, _⟩) ?_); (refine Se.toL rfl (Se.ld (o := ⟨some 4, _, _, _, _, _⟩) hs rfl rfl (Cell.blk 0 rfl rfl) (by kernel_rfl) ?_))) | ((first | with_reducible refine Se.ab hs ?_ | with_reducible refine Se.abc hs ?_); clear hs; (first | (generalize w.heap.size = g1; intro w hs))))
  go_ret
  rw [E.out, H3.out]
  exact ⟨by simp_all, hs.drop⟩
 ·have H3 := Lib.hid h3
  clear h3
  go_enter Try.func75, Try.ntmps75
  go_wp2_with (first | ((with_reducible refine Se.isL (o := ⟨some 4, _, _, _, _, _⟩) ?_); (refine Se.toL rfl (Se.ld (o := ⟨some 4, _, _, _, _, _⟩) hs rfl rfl (Cell.blk 0 rfl rfl) (by kernel_rfl) ?_))) | ((with_reducible refine Se.isL (o := ⟨some 8, _, _, _, _, _⟩) ?_); (refine Se.toL rfl (Se.ld (o := ⟨some 8, _, _, _, _, _⟩) hs rfl rfl (Cell.blk 0 rfl rfl) (by kernel_rfl) ?_))) | ((first | with_reducible refine Se.ab hs ?_ | with_reducible refine Se.abc hs ?_); clear hs; (first | (generalize w.heap.size = g1; intro w hs))))
  go_ret
  rw [E.out, H3.out]
  exact ⟨by simp_all, hs.drop⟩
 ·have H3 := Lib.hid h3
  clear h3
  go_enter Try.func75, Try.ntmps75
  go_wp2_with (first | ((with_reducible refine Se.isL (o := ⟨some 4, _, _, _, _, _⟩) ?_); (refine Se.toL rfl (Se.ld (o := ⟨some 4, _, _, _, _, _⟩) hs rfl rfl (Cell.blk 0 rfl rfl) (by kernel_rfl) ?_))) | ((with_reducible refine Se.isL (o := ⟨some 8, _, _, _, _, _⟩) ?_); (refine Se.toL rfl (Se.ld (o := ⟨some 8, _, _, _, _, _⟩) hs rfl rfl (Cell.blk 0 rfl rfl) (by kernel_rfl) ?_))) | ((first | with_reducible refine Se.ab hs ?_ | with_reducible refine Se.abc hs ?_); clear hs; (first | (generalize w.heap.size = g1; intro w hs))))
  go_ret
  rw [E.out, H3.out]
  exact ⟨by simp_all, hs.drop⟩
set_option maxRecDepth 100000 in
set_option maxHeartbeats 4000000 in
theorem validResponse_st (hs : St w0 X L w) : Calls Try.prog 78 #[.agg (pc h EA en ec DA dn dc).toArray] w fun e w' => e = .returned (.bool (decide (h.al.toNat ≤ 31 ∧ h.dg.toNat ≤ 3 ∧ 4096 ≤ h.mx.toNat ∧ h.mx.toNat % 4 = 0))) ∧ St w0 X L w' := by
 have V := Lib.hid (fun (w : World) (hs : St w0 X (.blk 0 0 [] :: L) w) => validInit_st (h := h) (EA := EA) (en := en) (ec := ec) (DA := DA) (dn := dn) (dc := dc) hs)
 obtain ⟨b, hb⟩ : ∃ b, b = decide (h.al.toNat ≤ 31 ∧ h.dg.toNat ≤ 3) := ⟨_, rfl⟩
 obtain ⟨P, hP⟩ : ∃ P, P = pc h EA en ec DA dn dc := ⟨_, rfl⟩
 have PL := Lib.hid (show P.length = 14 by rw [hP]; rfl)
 have P10 := Lib.hid (show P[10]? = some (.int .u32 (n32 h.mx)) by rw [hP]; rfl)
 have C := Lib.hid (fun (L : List At) (w : World) (hs : St w0 X L w) => validInit_st (h := h) (EA := EA) (en := en) (ec := ec) (DA := DA) (dn := dn) (dc := dc) hs)
 rw [← hP, ← hb] at C
 rw [← hP]
 have F : Hid (decide (h.al.toNat ≤ 31 ∧ h.dg.toNat ≤ 3 ∧ 4096 ≤ h.mx.toNat ∧ h.mx.toNat % 4 = 0) = (b && decide (4096 ≤ h.mx.toNat) && decide (h.mx.toNat % 4 = 0))) := Lib.hid (by rw [hb]; simp [Bool.and_assoc])
 rw [F.out]
 have e1 : decide ((4096 : Int) ≤ n32 h.mx) = decide (4096 ≤ h.mx.toNat) := by unfold n32; simp only [decide_eq_decide]; omega
 have e2 : ((n32 h.mx).tmod 4 == 0) = decide (h.mx.toNat % 4 = 0) := by
  unfold n32
  rw [Int.tmod_eq_emod_of_nonneg (by omega), Bool.eq_iff_iff]; simp; omega
 clear hP hb V F
 obtain ⟨m, hm⟩ : ∃ m, m = n32 h.mx := ⟨_, rfl⟩
 rw [← hm] at P10 e1 e2
 cases b with
 | false =>
  clear e1 e2 hm
  go_enter Try.func78, Try.ntmps78
  go_wp2_with (first | ((with_reducible refine Se.isL (o := ⟨some 3, _, _, _, _, _⟩) ?_); (refine Se.toL rfl (Se.ldw (o := ⟨some 3, _, _, _, _, _⟩) hs rfl rfl ((Reads.blk 0 rfl)) ((by rw [PL.out]; kernel_rfl)) (by kernel_rfl) ?_))) | ((first | with_reducible refine Se.ab hs ?_ | with_reducible refine Se.abc hs ?_); clear hs; (first | (generalize w.heap.size = g1; intro w hs))) | (go_at_call 75; refine Calls.mono (C.out _ _ hs) ?_; clear hs; rintro e w ⟨rfl, hs⟩))
  go_ret
  exact ⟨rfl, hs.drop⟩
 | true =>
  cases h1 : decide (4096 ≤ h.mx.toNat) with
  | false =>
   rw [h1] at e1
   clear h1 e2 hm
   go_enter Try.func78, Try.ntmps78
   go_wp2_with (first | ((with_reducible refine Se.isL (o := ⟨some 3, _, _, _, _, _⟩) ?_); (refine Se.toL rfl (Se.ldw (o := ⟨some 3, _, _, _, _, _⟩) hs rfl rfl ((Reads.blk 0 rfl)) ((by rw [PL.out]; kernel_rfl)) (by kernel_rfl) ?_))) | ((with_reducible refine Se.isL (o := ⟨some 7, _, _, _, _, _⟩) ?_); (refine Se.toL rfl (Se.ld (o := ⟨some 7, _, _, _, _, _⟩) hs rfl rfl (Cell.blk 0 rfl P10.out) (by kernel_rfl) ?_))) | ((first | with_reducible refine Se.ab hs ?_ | with_reducible refine Se.abc hs ?_); clear hs; (first | (generalize w.heap.size = g1; intro w hs))) | (go_at_call 75; refine Calls.mono (C.out _ _ hs) ?_; clear hs; rintro e w ⟨rfl, hs⟩))
   go_ret
   exact ⟨by simp_all, hs.drop⟩
  | true =>
   rw [h1] at e1
   obtain ⟨b2, hb2⟩ : ∃ b2, b2 = decide (h.mx.toNat % 4 = 0) := ⟨_, rfl⟩
   rw [← hb2] at e2 ⊢
   clear h1 hb2 hm
   go_enter Try.func78, Try.ntmps78
   go_wp2_with (first | ((with_reducible refine Se.isL (o := ⟨some 3, _, _, _, _, _⟩) ?_); (refine Se.toL rfl (Se.ldw (o := ⟨some 3, _, _, _, _, _⟩) hs rfl rfl ((Reads.blk 0 rfl)) ((by rw [PL.out]; kernel_rfl)) (by kernel_rfl) ?_))) | ((with_reducible refine Se.isL (o := ⟨some 7, _, _, _, _, _⟩) ?_); (refine Se.toL rfl (Se.ld (o := ⟨some 7, _, _, _, _, _⟩) hs rfl rfl (Cell.blk 0 rfl P10.out) (by kernel_rfl) ?_))) | ((with_reducible refine Se.isL (o := ⟨some 12, _, _, _, _, _⟩) ?_); (refine Se.toL rfl (Se.ld (o := ⟨some 12, _, _, _, _, _⟩) hs rfl rfl (Cell.blk 0 rfl P10.out) (by kernel_rfl) ?_))) | ((first | with_reducible refine Se.ab hs ?_ | with_reducible refine Se.abc hs ?_); clear hs; (first | (generalize w.heap.size = g1; intro w hs))) | (go_at_call 75; refine Calls.mono (C.out _ _ hs) ?_; clear hs; rintro e w ⟨rfl, hs⟩))
   go_ret
   exact ⟨by simp_all, hs.drop⟩
end Pd
end Go.Proofs.Ytdngfcmakjlamaa


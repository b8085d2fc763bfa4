/- Layer 38's law AuthNil, the walk. No condition but Go's own limits. -/
import Derived.Test.YtakdoijemopejaaAuNil
import Derived.Test.YtakdoijemopejaaAuAct
set_option linter.unusedSimpArgs false
set_option linter.unusedVariables false
namespace Go.Proofs.Ytakdoijemopejaa
open Go Go.RowKit
namespace Au
open Se (St At Reads Cell)
open Li (v8 v8_one Rd Blk Fr)
open Bv (n8 n16 n32 n64)
variable {w0 w : World} {X : List Nat} {L M : List At}
attribute [local irreducible] Calls
theorem zverB (w : World) : (Instr.build 56 #[]).run Try.prog w = .ok (.agg zc.toArray) w := by kernel_rfl
theorem zproB (w : World) : (Instr.build 59 #[]).run Try.prog w = .ok (.agg zc.toArray) w := by kernel_rfl
set_option maxRecDepth 100000 in
set_option maxHeartbeats 4000000 in
theorem nil_st (hs : St w0 X L w) (kind : Int) (N : Bs) (hN : N.length = 32) (seq : BitVec 32) (q : BitVec 16) (B : Option Addr) (n c : Nat) (both : Bool) :
  Calls Try.prog 6 #[.agg (acl kind N seq q B n c both).toArray] w fun e w' => e = .returned (.bool true) ∧ St w0 X L w' := by
 obtain ⟨AL, hAL⟩ : ∃ AL, AL = acl kind N seq q B n c both := ⟨_, rfl⟩
 obtain ⟨NV, hNV⟩ : ∃ NV, NV = N.map v8 := ⟨_, rfl⟩
 obtain ⟨ZC, hZC⟩ : ∃ ZC, ZC = zc := ⟨_, rfl⟩
 have h := acl_33 (kind := kind) (seq := seq) (q := q) (B := B) (n := n) (c := c) (both := both) hN
 rw [← hAL, ← hNV] at h
 have A33 := Lib.hid h.1
 have A34 := Lib.hid h.2.1
 have A35 := Lib.hid h.2.2.1
 have A36 := Lib.hid h.2.2.2.1
 have NL := Lib.hid (show NV.length = 32 by rw [hNV]; simpa using hN)
 have RN := Lib.hid (show ∀ (g : Nat) (T : TypeId) (L : List At), Reads (.blk g T AL :: L) (some ⟨g, 1, none⟩) NV by
  intro g T L
  have h2 := ((Reads.blk (L := .blk g T AL :: L) 0 rfl).at 1).take 32
  rw [h.2.2.2.2.2] at h2
  simpa using h2)
 have BV := Lib.hid (show ∀ w : World, (Instr.build 56 #[]).run Try.prog w = .ok (.agg ZC.toArray) w by rw [hZC]; exact zverB)
 have BP := Lib.hid (show ∀ w : World, (Instr.build 59 #[]).run Try.prog w = .ok (.agg ZC.toArray) w by rw [hZC]; exact zproB)
 have HZ := Lib.hid hZC
 rw [← hAL]
 clear hAL hNV hZC h hN
 go_enter Try.func6, Try.ntmps6
 go_upto_region 4 with (first | ((with_reducible refine Se.isL (o := ⟨some 16, _, _, _, _, _⟩) ?_); (refine Se.toL rfl (Se.bd (o := ⟨some 16, _, _, _, _, _⟩) rfl rfl (BV.out _) ?_))) | ((with_reducible refine Se.isL (o := ⟨some 17, _, _, _, _, _⟩) ?_); (refine Se.toL rfl (Se.bx (o := ⟨some 17, _, _, _, _, _⟩) hs rfl rfl (l := ZC) rfl ?_); clear hs; rintro w g17 - hs)) | ((first | with_reducible refine Se.ab hs ?_ | with_reducible refine Se.abc hs ?_); clear hs; (first | ((fail_if_success (have _q := g1)); generalize w.heap.size = g1; intro w hs) | (generalize w.heap.size = g18; intro w hs))))
 have HC : Hid (∀ i : Nat, i < 2 → ∃ P, ([.pointer none, .pointer (some ⟨g17, 0, none⟩)] : List Value)[i]? = some (.pointer P) ∧ ∀ L', NZ (.blk g18 30 [.pointer none, .pointer (some ⟨g17, 0, none⟩)] :: .blk g17 56 ZC :: L') 56 P) := Lib.hid (by
  intro i hi
  match i, hi with
  | 0, _ => exact ⟨none, rfl, fun _ => .inl rfl⟩
  | 1, _ => exact ⟨some ⟨g17, 0, none⟩, rfl, fun _ => .inr ⟨g17, rfl, by rw [HZ.out]; simp⟩⟩)
 go_loopg [20] 2 (fun gh s20 wr => ∃ (i : Nat), gh = 2 - i ∧ i ≤ 2 ∧ s20 = .int .i64 i ∧ St w0 X (.blk g18 30 [.pointer none, .pointer (some ⟨g17, 0, none⟩)] :: .blk g17 56 ZC :: .blk g1 50 AL :: L) wr)
 case atStart => exact ⟨0, rfl, by omega, rfl, hs⟩
 case round =>
  clear hs
  rename World => w
  obtain ⟨i, rfl, hi, rfl, hs⟩ := hrel
  by_cases hlt : i < 2
  ·have hlt' : (i : Int) < 2 := by omega
   obtain ⟨P, hP, hNZ⟩ := HC.out i hlt
   have HP := Lib.hid hP
   have HN := Lib.hid hNZ
   clear hP hNZ HC
   go_upto_region 7 with (first | ((with_reducible refine Se.isL (o := ⟨some 23, _, _, _, _, _⟩) ?_); (refine Se.toL rfl (Se.ld (o := ⟨some 23, _, _, _, _, _⟩) hs rfl rfl (Cell.blk 0 rfl HP.out) (by kernel_rfl) ?_))) | ((with_reducible refine Se.isL (o := ⟨some 27, _, _, _, _, _⟩) ?_); (refine Se.toL rfl (Se.ldw (o := ⟨some 27, _, _, _, _, _⟩) hs rfl rfl ((((RN.out _ _ _).cons _).cons _)) ((by rw [NL.out]; kernel_rfl)) (by kernel_rfl) ?_))) | ((with_reducible refine Se.isL (o := ⟨some 29, _, _, _, _, _⟩) ?_); (refine Se.toL rfl (Se.ld (o := ⟨some 29, _, _, _, _, _⟩) hs rfl rfl (Cell.blk 2 rfl A33.out) (by kernel_rfl) ?_))) | ((with_reducible refine Se.isL (o := ⟨some 31, _, _, _, _, _⟩) ?_); (refine Se.toL rfl (Se.ld (o := ⟨some 31, _, _, _, _, _⟩) hs rfl rfl (Cell.blk 2 rfl A34.out) (by kernel_rfl) ?_))) | (go_at_call 11; refine Calls.mono (chal_nil hs (HN.out _) NV NL.out _ _) ?_; clear hs; rintro e w ⟨rfl, hs⟩))
   go_upto_region 8 with (first | ((with_reducible refine Se.isL (o := ⟨some 38, _, _, _, _, _⟩) ?_); (refine Se.toL rfl (Se.ld (o := ⟨some 38, _, _, _, _, _⟩) hs rfl rfl (Cell.blk 2 rfl A35.out) (by kernel_rfl) ?_))) | (go_at_call 15; refine Calls.mono (check_nil hs (HN.out _) _ _ _) ?_; clear hs; rintro e w ⟨rfl, hs⟩))
   go_wp2_with (first | (go_at_call 13; refine Calls.mono (vdone_nil hs (HN.out _)) ?_; clear hs; rintro e w ⟨rfl, hs⟩) | (go_at_call 17; refine Calls.mono (vcopy_nil hs (HN.out _)) ?_; clear hs; rintro e w ⟨rfl, hs⟩))
   go_roundg (2 - (i + 1))
   case measure => omega
   case rel => exact ⟨i + 1, rfl, by omega, by go_num, hs⟩
  ·obtain rfl : i = 2 := by omega
   replace hs := hs.drop.drop
   clear HC
   go_upto_region 12 with (first | ((with_reducible refine Se.isL (o := ⟨some 67, _, _, _, _, _⟩) ?_); (refine Se.toL rfl (Se.bd (o := ⟨some 67, _, _, _, _, _⟩) rfl rfl (BP.out _) ?_))) | ((with_reducible refine Se.isL (o := ⟨some 68, _, _, _, _, _⟩) ?_); (refine Se.toL rfl (Se.bx (o := ⟨some 68, _, _, _, _, _⟩) hs rfl rfl (l := ZC) rfl ?_); clear hs; rintro w g68 - hs)) | ((first | with_reducible refine Se.ab hs ?_ | with_reducible refine Se.abc hs ?_); clear hs; (first | (generalize w.heap.size = g69; intro w hs))))
   have HC : Hid (∀ i : Nat, i < 2 → ∃ P, ([.pointer none, .pointer (some ⟨g68, 0, none⟩)] : List Value)[i]? = some (.pointer P) ∧ ∀ L', NZ (.blk g69 34 [.pointer none, .pointer (some ⟨g68, 0, none⟩)] :: .blk g68 59 ZC :: L') 59 P) := Lib.hid (by
    intro i hi
    match i, hi with
    | 0, _ => exact ⟨none, rfl, fun _ => .inl rfl⟩
    | 1, _ => exact ⟨some ⟨g68, 0, none⟩, rfl, fun _ => .inr ⟨g68, rfl, by rw [HZ.out]; simp⟩⟩)
   go_loopg [71] 2 (fun gh s71 wr => ∃ (i : Nat), gh = 2 - i ∧ i ≤ 2 ∧ s71 = .int .i64 i ∧ St w0 X (.blk g69 34 [.pointer none, .pointer (some ⟨g68, 0, none⟩)] :: .blk g68 59 ZC :: .blk g1 50 AL :: L) wr)
   case atStart => exact ⟨0, rfl, by omega, rfl, hs⟩
   case round =>
    clear hs hi
    rename World => w
    obtain ⟨i, rfl, hi, rfl, hs⟩ := hrel
    by_cases hlt : i < 2
    ·have hlt' : (i : Int) < 2 := by omega
     obtain ⟨P, hP, hNZ⟩ := HC.out i hlt
     have HP := Lib.hid hP
     have HN := Lib.hid hNZ
     clear hP hNZ HC
     go_upto_region 15 with (first | ((with_reducible refine Se.isL (o := ⟨some 74, _, _, _, _, _⟩) ?_); (refine Se.toL rfl (Se.ld (o := ⟨some 74, _, _, _, _, _⟩) hs rfl rfl (Cell.blk 0 rfl HP.out) (by kernel_rfl) ?_))) | ((with_reducible refine Se.isL (o := ⟨some 78, _, _, _, _, _⟩) ?_); (refine Se.toL rfl (Se.ld (o := ⟨some 78, _, _, _, _, _⟩) hs rfl rfl (Cell.blk 2 rfl A35.out) (by kernel_rfl) ?_))) | ((with_reducible refine Se.isL (o := ⟨some 80, _, _, _, _, _⟩) ?_); (refine Se.toL rfl (Se.ld (o := ⟨some 80, _, _, _, _, _⟩) hs rfl rfl (Cell.blk 2 rfl A36.out) (by kernel_rfl) ?_))) | ((with_reducible refine Se.isL (o := ⟨some 82, _, _, _, _, _⟩) ?_); (refine Se.toL rfl (Se.ldw (o := ⟨some 82, _, _, _, _, _⟩) hs rfl rfl ((((RN.out _ _ _).cons _).cons _)) ((by rw [NL.out]; kernel_rfl)) (by kernel_rfl) ?_))) | (go_at_call 12; refine Calls.mono (ans_nil hs (HN.out _) _ _ _ _ NV NL.out) ?_; clear hs; rintro e w ⟨rfl, hs⟩))
     go_wp2_with (first | ((with_reducible refine Se.isL (o := ⟨some 96, _, _, _, _, _⟩) ?_); (refine Se.toL rfl (Se.ld (o := ⟨some 96, _, _, _, _, _⟩) hs rfl rfl (Cell.blk 2 rfl A35.out) (by kernel_rfl) ?_))) | (go_at_call 16; refine Calls.mono (fin_nil hs (HN.out _) _ _ _) ?_; clear hs; rintro e w ⟨rfl, hs⟩) | (go_at_call 14; refine Calls.mono (pdone_nil hs (HN.out _)) ?_; clear hs; rintro e w ⟨rfl, hs⟩) | (go_at_call 19; refine Calls.mono (pcopy_nil hs (HN.out _)) ?_; clear hs; rintro e w ⟨rfl, hs⟩))
     go_roundg (2 - (i + 1))
     case measure => omega
     case rel => exact ⟨i + 1, rfl, by omega, by go_num, hs⟩
    ·obtain rfl : i = 2 := by omega
     replace hs := hs.drop.drop
     go_wp2_with (first | (go_at_call 8; refine Calls.mono (known_st hs) ?_; clear hs; rintro e w ⟨rfl, hs⟩))
     go_ret
     exact ⟨rfl, hs.drop⟩
theorem nillaw_any (W : World) (kind : Int) {N : Bs} (hN : N.length = 32) (seq : BitVec 32) (q : BitVec 16) (B : Option Addr) (n c : Nat) (both : Bool) :
  Calls Try.prog 6 #[.agg (acl kind N seq q B n c both).toArray] W fun e w' => e = .returned (.bool true) ∧ Below W.heap.size W w' :=
 (nil_st (St.start (L := []) W (fun a ha => by simp at ha) rfl) kind N hN seq q B n c both).mono fun _ _ ⟨h1, h2⟩ => ⟨h1, h2.below⟩
end Au
end Go.Proofs.Ytakdoijemopejaa

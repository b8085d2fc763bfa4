/- Layer 38: the methods of nil and zero objects. No condition but Go's own limits. -/
import Derived.Test.YtakdoijemopejaaAuKn
set_option linter.unusedSimpArgs false
set_option linter.unusedVariables false
namespace Go.Proofs.Ytakdoijemopejaa
open Go Go.RowKit
namespace Au
open Se (St At Reads Cell)
open Li (v8 v8_one Rd Blk Fr)
open Bv (n8 n16 n32 n64)
variable {w0 w : World} {X : List Nat} {L M : List At}
attribute [local irreducible] Calls
/-- A nil pointer, or one to a zero object. -/
def pz : Pn := ⟨[], ⟨#[]⟩, ⟨#[]⟩⟩
abbrev zc : List Value := vcl { p := pz } none 0
def NZ (L : List At) (T : TypeId) (P : Option Addr) : Prop := P = none ∨ ∃ g, P = some ⟨g, 0, none⟩ ∧ At.blk g T zc ∈ L
theorem zc_rd {g : Nat} {T : TypeId} (h : At.blk g T zc ∈ L) : Reads L (some ⟨g, 0, none⟩) (pcl pz none 0) := fun w hw => by
 have := (Rd.of_blk (hw _ h)).take 3
 exact this
theorem zc_40 {g : Nat} {T : TypeId} (h : At.blk g T zc ∈ L) : Cell L g 40 (.bool false) := fun w hw => by
 have hb : Blk w g zc T := hw _ h
 rw [hb.cell]; rfl
set_option maxRecDepth 100000 in
set_option maxHeartbeats 4000000 in
theorem none_yes (hs : St w0 X L w) : Calls Try.prog 25 #[.agg (pcl pz none 0).toArray] w fun e w' => e = .returned (.bool true) ∧ St w0 X L w' := by
 obtain ⟨PL, hPL⟩ : ∃ PL, PL = pcl pz none 0 := ⟨_, rfl⟩
 have P0 := Lib.hid (show PL[0]? = some (.slice none 0 0) by rw [hPL]; rfl)
 rw [← hPL]
 clear hPL
 go_enter Try.func25, Try.ntmps25
 go_wp2_with (first | ((with_reducible refine Se.isL (o := ⟨some 4, _, _, _, _, _⟩) ?_); (refine Se.toL rfl (Se.ld (o := ⟨some 4, _, _, _, _, _⟩) hs rfl rfl (Cell.blk 0 rfl P0.out) (by kernel_rfl) ?_))) | ((first | with_reducible refine Se.ab hs ?_ | with_reducible refine Se.abc hs ?_); clear hs; (first | (generalize w.heap.size = gp; intro w hs))))
 go_ret
 exact ⟨rfl, hs.drop⟩
set_option maxRecDepth 100000 in
set_option maxHeartbeats 4000000 in
theorem chal_nil {P : Option Addr} (hs : St w0 X L w) (hP : NZ L 56 P) (NV : List Value) (hN : NV.length = 32) (a b : Int) : Calls Try.prog 11 #[.pointer P, .agg NV.toArray, .int .u32 a, .int .u16 b] w fun e w' => e = .returned (.tuple #[.slice none 0 0, .int .i64 1]) ∧ St w0 X L w' := by
 have HN := Lib.hid hN
 clear hN
 rcases hP with rfl | ⟨g, rfl, hm⟩
 ·go_enter Try.func11, Try.ntmps11
  go_wp2_with (first | ((first | with_reducible refine Se.ab hs ?_ | with_reducible refine Se.abc hs ?_); clear hs; (first | (generalize w.heap.size = g5; intro w hs))))
  go_ret2
  exact ⟨rfl, hs.drop⟩
 ·obtain ⟨PL, hPL⟩ : ∃ PL, PL = pcl pz none 0 := ⟨_, rfl⟩
  have PLL := Lib.hid (show PL.length = 3 by rw [hPL]; rfl)
  have RP := Lib.hid (show Reads L (some ⟨g, 0, none⟩) PL by rw [hPL]; exact zc_rd hm)
  have CN : Hid (∀ (L' : List At) (w : World), St w0 X L' w → Calls Try.prog 25 #[.agg PL.toArray] w fun e w' => e = .returned (.bool true) ∧ St w0 X L' w') := Lib.hid (fun L' w hs => by rw [hPL]; exact none_yes hs)
  clear hPL hm
  go_enter Try.func11, Try.ntmps11
  go_wp2_with (first | ((with_reducible refine Se.isL (o := ⟨some 17, _, _, _, _, _⟩) ?_); (refine Se.toL rfl (Se.ldw (o := ⟨some 17, _, _, _, _, _⟩) hs rfl rfl (((RP.out).cons _)) ((by rw [PLL.out]; kernel_rfl)) (by kernel_rfl) ?_))) | ((first | with_reducible refine Se.ab hs ?_ | with_reducible refine Se.abc hs ?_); clear hs; (first | (generalize w.heap.size = g5; intro w hs))) | (go_at_call 25; refine Calls.mono (CN.out _ _ hs) ?_; clear hs; rintro e w ⟨rfl, hs⟩))
  go_ret2
  exact ⟨rfl, hs.drop⟩
set_option maxRecDepth 100000 in
set_option maxHeartbeats 4000000 in
theorem check_nil {P : Option Addr} (hs : St w0 X L w) (hP : NZ L 56 P) (B : Option Addr) (n c : Nat) : Calls Try.prog 15 #[.pointer P, .slice B n c] w fun e w' => e = .returned (.tuple #[.slice none 0 0, .int .i64 1]) ∧ St w0 X L w' := by
 rcases hP with rfl | ⟨g, rfl, hm⟩
 ·go_enter Try.func15, Try.ntmps15
  go_wp2_with fail
  go_ret2
  exact ⟨rfl, hs⟩
 ·obtain ⟨PL, hPL⟩ : ∃ PL, PL = pcl pz none 0 := ⟨_, rfl⟩
  have PLL := Lib.hid (show PL.length = 3 by rw [hPL]; rfl)
  have RP := Lib.hid (show Reads L (some ⟨g, 0, none⟩) PL by rw [hPL]; exact zc_rd hm)
  have CN : Hid (∀ (L' : List At) (w : World), St w0 X L' w → Calls Try.prog 25 #[.agg PL.toArray] w fun e w' => e = .returned (.bool true) ∧ St w0 X L' w') := Lib.hid (fun L' w hs => by rw [hPL]; exact none_yes hs)
  clear hPL hm
  go_enter Try.func15, Try.ntmps15
  go_wp2_with (first | ((with_reducible refine Se.isL (o := ⟨some 16, _, _, _, _, _⟩) ?_); (refine Se.toL rfl (Se.ldw (o := ⟨some 16, _, _, _, _, _⟩) hs rfl rfl ((RP.out)) ((by rw [PLL.out]; kernel_rfl)) (by kernel_rfl) ?_))) | (go_at_call 25; refine Calls.mono (CN.out _ _ hs) ?_; clear hs; rintro e w ⟨rfl, hs⟩))
  go_ret2
  exact ⟨rfl, hs⟩
set_option maxRecDepth 100000 in
set_option maxHeartbeats 4000000 in
theorem vdone_nil {P : Option Addr} (hs : St w0 X L w) (hP : NZ L 56 P) : Calls Try.prog 13 #[.pointer P] w fun e w' => e = .returned (.bool false) ∧ St w0 X L w' := by
 rcases hP with rfl | ⟨g, rfl, hm⟩
 ·go_enter Try.func13, Try.ntmps13
  go_wp2_with fail
  go_ret
  exact ⟨rfl, hs⟩
 ·have C40 := Lib.hid (zc_40 hm)
  clear hm
  go_enter Try.func13, Try.ntmps13
  go_wp2_with (first | ((with_reducible refine Se.isL (o := ⟨some 9, _, _, _, _, _⟩) ?_); (refine Se.toL rfl (Se.ld (o := ⟨some 9, _, _, _, _, _⟩) hs rfl rfl (C40.out) (by kernel_rfl) ?_))))
  go_ret
  exact ⟨rfl, hs⟩
set_option maxRecDepth 100000 in
set_option maxHeartbeats 4000000 in
theorem vcopy_nil {P : Option Addr} (hs : St w0 X L w) (hP : NZ L 56 P) : Calls Try.prog 17 #[.pointer P] w fun e w' => e = .returned (.pointer none) ∧ St w0 X L w' := by
 rcases hP with rfl | ⟨g, rfl, hm⟩
 ·go_enter Try.func17, Try.ntmps17
  go_wp2_with fail
  go_ret
  exact ⟨rfl, hs⟩
 ·obtain ⟨PL, hPL⟩ : ∃ PL, PL = pcl pz none 0 := ⟨_, rfl⟩
  have PLL := Lib.hid (show PL.length = 3 by rw [hPL]; rfl)
  have RP := Lib.hid (show Reads L (some ⟨g, 0, none⟩) PL by rw [hPL]; exact zc_rd hm)
  have CN : Hid (∀ (L' : List At) (w : World), St w0 X L' w → Calls Try.prog 25 #[.agg PL.toArray] w fun e w' => e = .returned (.bool true) ∧ St w0 X L' w') := Lib.hid (fun L' w hs => by rw [hPL]; exact none_yes hs)
  clear hPL hm
  go_enter Try.func17, Try.ntmps17
  go_wp2_with (first | ((with_reducible refine Se.isL (o := ⟨some 10, _, _, _, _, _⟩) ?_); (refine Se.toL rfl (Se.ldw (o := ⟨some 10, _, _, _, _, _⟩) hs rfl rfl ((RP.out)) ((by rw [PLL.out]; kernel_rfl)) (by kernel_rfl) ?_))) | (go_at_call 25; refine Calls.mono (CN.out _ _ hs) ?_; clear hs; rintro e w ⟨rfl, hs⟩))
  go_ret
  exact ⟨rfl, hs⟩
set_option maxRecDepth 100000 in
set_option maxHeartbeats 4000000 in
theorem ans_nil {P : Option Addr} (hs : St w0 X L w) (hP : NZ L 59 P) (B : Option Addr) (n c : Nat) (both : Bool) (NV : List Value) (hN : NV.length = 32) : Calls Try.prog 12 #[.pointer P, .slice B n c, .bool both, .agg NV.toArray] w fun e w' => e = .returned (.tuple #[.slice none 0 0, .int .i64 1]) ∧ St w0 X L w' := by
 have HN := Lib.hid hN
 clear hN
 rcases hP with rfl | ⟨g, rfl, hm⟩
 ·go_enter Try.func12, Try.ntmps12
  go_wp2_with (first | ((first | with_reducible refine Se.ab hs ?_ | with_reducible refine Se.abc hs ?_); clear hs; (first | (generalize w.heap.size = g7; intro w hs))))
  go_ret2
  exact ⟨rfl, hs.drop⟩
 ·obtain ⟨PL, hPL⟩ : ∃ PL, PL = pcl pz none 0 := ⟨_, rfl⟩
  have PLL := Lib.hid (show PL.length = 3 by rw [hPL]; rfl)
  have RP := Lib.hid (show Reads L (some ⟨g, 0, none⟩) PL by rw [hPL]; exact zc_rd hm)
  have CN : Hid (∀ (L' : List At) (w : World), St w0 X L' w → Calls Try.prog 25 #[.agg PL.toArray] w fun e w' => e = .returned (.bool true) ∧ St w0 X L' w') := Lib.hid (fun L' w hs => by rw [hPL]; exact none_yes hs)
  clear hPL hm
  go_enter Try.func12, Try.ntmps12
  go_wp2_with (first | ((with_reducible refine Se.isL (o := ⟨some 19, _, _, _, _, _⟩) ?_); (refine Se.toL rfl (Se.ldw (o := ⟨some 19, _, _, _, _, _⟩) hs rfl rfl (((RP.out).cons _)) ((by rw [PLL.out]; kernel_rfl)) (by kernel_rfl) ?_))) | ((first | with_reducible refine Se.ab hs ?_ | with_reducible refine Se.abc hs ?_); clear hs; (first | (generalize w.heap.size = g7; intro w hs))) | (go_at_call 25; refine Calls.mono (CN.out _ _ hs) ?_; clear hs; rintro e w ⟨rfl, hs⟩))
  go_ret2
  exact ⟨rfl, hs.drop⟩
set_option maxRecDepth 100000 in
set_option maxHeartbeats 4000000 in
theorem fin_nil {P : Option Addr} (hs : St w0 X L w) (hP : NZ L 59 P) (B : Option Addr) (n c : Nat) : Calls Try.prog 16 #[.pointer P, .slice B n c] w fun e w' => e = .returned (.int .i64 1) ∧ St w0 X L w' := by
 rcases hP with rfl | ⟨g, rfl, hm⟩
 ·go_enter Try.func16, Try.ntmps16
  go_wp2_with fail
  go_ret
  exact ⟨rfl, hs⟩
 ·obtain ⟨PL, hPL⟩ : ∃ PL, PL = pcl pz none 0 := ⟨_, rfl⟩
  have PLL := Lib.hid (show PL.length = 3 by rw [hPL]; rfl)
  have RP := Lib.hid (show Reads L (some ⟨g, 0, none⟩) PL by rw [hPL]; exact zc_rd hm)
  have CN : Hid (∀ (L' : List At) (w : World), St w0 X L' w → Calls Try.prog 25 #[.agg PL.toArray] w fun e w' => e = .returned (.bool true) ∧ St w0 X L' w') := Lib.hid (fun L' w hs => by rw [hPL]; exact none_yes hs)
  clear hPL hm
  go_enter Try.func16, Try.ntmps16
  go_wp2_with (first | ((with_reducible refine Se.isL (o := ⟨some 14, _, _, _, _, _⟩) ?_); (refine Se.toL rfl (Se.ldw (o := ⟨some 14, _, _, _, _, _⟩) hs rfl rfl ((RP.out)) ((by rw [PLL.out]; kernel_rfl)) (by kernel_rfl) ?_))) | (go_at_call 25; refine Calls.mono (CN.out _ _ hs) ?_; clear hs; rintro e w ⟨rfl, hs⟩))
  go_ret
  exact ⟨rfl, hs⟩
set_option maxRecDepth 100000 in
set_option maxHeartbeats 4000000 in
theorem pdone_nil {P : Option Addr} (hs : St w0 X L w) (hP : NZ L 59 P) : Calls Try.prog 14 #[.pointer P] w fun e w' => e = .returned (.bool false) ∧ St w0 X L w' := by
 rcases hP with rfl | ⟨g, rfl, hm⟩
 ·go_enter Try.func14, Try.ntmps14
  go_wp2_with fail
  go_ret
  exact ⟨rfl, hs⟩
 ·have C40 := Lib.hid (zc_40 hm)
  clear hm
  go_enter Try.func14, Try.ntmps14
  go_wp2_with (first | ((with_reducible refine Se.isL (o := ⟨some 9, _, _, _, _, _⟩) ?_); (refine Se.toL rfl (Se.ld (o := ⟨some 9, _, _, _, _, _⟩) hs rfl rfl (C40.out) (by kernel_rfl) ?_))))
  go_ret
  exact ⟨rfl, hs⟩
set_option maxRecDepth 100000 in
set_option maxHeartbeats 4000000 in
theorem pcopy_nil {P : Option Addr} (hs : St w0 X L w) (hP : NZ L 59 P) : Calls Try.prog 19 #[.pointer P] w fun e w' => e = .returned (.pointer none) ∧ St w0 X L w' := by
 rcases hP with rfl | ⟨g, rfl, hm⟩
 ·go_enter Try.func19, Try.ntmps19
  go_wp2_with fail
  go_ret
  exact ⟨rfl, hs⟩
 ·obtain ⟨PL, hPL⟩ : ∃ PL, PL = pcl pz none 0 := ⟨_, rfl⟩
  have PLL := Lib.hid (show PL.length = 3 by rw [hPL]; rfl)
  have RP := Lib.hid (show Reads L (some ⟨g, 0, none⟩) PL by rw [hPL]; exact zc_rd hm)
  have CN : Hid (∀ (L' : List At) (w : World), St w0 X L' w → Calls Try.prog 25 #[.agg PL.toArray] w fun e w' => e = .returned (.bool true) ∧ St w0 X L' w') := Lib.hid (fun L' w hs => by rw [hPL]; exact none_yes hs)
  clear hPL hm
  go_enter Try.func19, Try.ntmps19
  go_wp2_with (first | ((with_reducible refine Se.isL (o := ⟨some 10, _, _, _, _, _⟩) ?_); (refine Se.toL rfl (Se.ldw (o := ⟨some 10, _, _, _, _, _⟩) hs rfl rfl ((RP.out)) ((by rw [PLL.out]; kernel_rfl)) (by kernel_rfl) ?_))) | (go_at_call 25; refine Calls.mono (CN.out _ _ hs) ?_; clear hs; rintro e w ⟨rfl, hs⟩))
  go_ret
  exact ⟨rfl, hs⟩
end Au
end Go.Proofs.Ytakdoijemopejaa

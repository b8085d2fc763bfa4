/- Layer 38: copies. No condition but Go's own limits. -/
import Derived.Test.YtakdoijemopejaaAuObj
set_option linter.unusedSimpArgs false
set_option linter.unusedVariables false
namespace Go.Proofs.Ytakdoijemopejaa
open Go Go.RowKit
namespace Au
open Se (St At Reads Cell)
open Li (v8 v8_one Rd Blk Fr)
open Bv (n8 n16 n32 n64)
variable {w0 w : World} {X : List Nat} {L : List At}
attribute [local irreducible] Calls
set_option maxRecDepth 100000 in
set_option maxHeartbeats 4000000 in
theorem verCopy_st {v : Vs} {A : Option Addr} {c g : Nat} (hs : St w0 X (.blk g 56 (vcl v A c) :: L) w) (hn : v.n.length = 32) (h1 : 1 ≤ v.p.sec.length) : Calls Try.prog 17 #[.pointer (some ⟨g, 0, none⟩)] w fun e w' => ∃ g2, e = .returned (.pointer (some ⟨g2, 0, none⟩)) ∧ St w0 X (.blk g2 56 (vcl v A c) :: .blk g 56 (vcl v A c) :: L) w' := by
 obtain ⟨VL, hVL⟩ : ∃ VL, VL = vcl v A c := ⟨_, rfl⟩
 obtain ⟨PL, hPL⟩ : ∃ PL, PL = pcl v.p A c := ⟨_, rfl⟩
 obtain ⟨Z, hZ, hZl⟩ : ∃ Z, (Try.prog.info? 56).bind (fun i => i.zero.map (·.cells.toList)) = some Z ∧ Z.length = 41 := ⟨[.slice none 0 0, .string ⟨#[]⟩, .string ⟨#[]⟩, .int .u8 0, .int .u8 0, .int .u16 0, .int .u32 0] ++ z32.map v8 ++ [.bool false, .bool false], by kernel_rfl, by decide⟩
 have hZ := Lib.hid hZ
 have ZL := Lib.hid hZl
 have VLL := Lib.hid (show VL.length = 41 by rw [hVL]; exact vcl_len hn A c)
 have VO := Lib.hid (show ∀ x ∈ VL, x.oneCell' = true by rw [hVL]; exact vcl_one v A c)
 have PLL := Lib.hid (show PL.length = 3 by rw [hPL]; rfl)
 have RP := Lib.hid (show ∀ L, Reads (.blk g 56 VL :: L) (some ⟨g, 0, none⟩) PL by intro L; rw [hVL, hPL]; exact vcl_rd v A c g _ L)
 have CN : Hid (∀ w, St w0 X (.blk g 56 VL :: L) w → Calls Try.prog 25 #[.agg PL.toArray] w fun e w' => e = .returned (.bool false) ∧ St w0 X (.blk g 56 VL :: L) w') := Lib.hid (fun w hs => by rw [hPL]; exact none_st hs v.p A c h1)
 rw [← hVL] at hs ⊢
 clear hVL hPL hZl h1 hn
 go_enter Try.func17, Try.ntmps17
 go_wp2_with (first | ((with_reducible refine Se.isL (o := ⟨some 10, _, _, _, _, _⟩) ?_); (refine Se.toL rfl (Se.ldw (o := ⟨some 10, _, _, _, _, _⟩) hs rfl rfl ((RP.out _)) ((by rw [PLL.out]; kernel_rfl)) (by kernel_rfl) ?_))) | ((with_reducible refine Se.isL (o := ⟨some 15, _, _, _, _, _⟩) ?_); (refine Se.toL rfl (Se.ldw (o := ⟨some 15, _, _, _, _, _⟩) hs rfl rfl ((Reads.blk 0 rfl)) ((by rw [VLL.out]; kernel_rfl)) (by kernel_rfl) ?_))) | ((with_reducible refine Se.isL (o := ⟨some 3, _, _, _, _, _⟩) ?_); (refine Se.toL rfl (Se.al (o := ⟨some 3, _, _, _, _, _⟩) hs rfl (hZ.out) ?_); clear hs; rintro w g3 - hs)) | ((with_reducible refine Se.isL (o := ⟨none, _, _, _, _, _⟩) ?_); (refine Se.toL rfl (Se.sow 0 hs rfl rfl rfl rfl (VO.out) ((by rw [VLL.out]; kernel_rfl)) ((by rw [VLL.out, ZL.out])) ?_); clear hs; intro w hs; try simp only [List.cons_append, List.nil_append, List.set_cons_zero] at hs)) | (go_at_call 25; refine Calls.mono (CN.out _ hs) ?_; clear hs; rintro e w ⟨rfl, hs⟩))
 go_ret
 exact ⟨g3, rfl, hs⟩
set_option maxRecDepth 100000 in
set_option maxHeartbeats 4000000 in
theorem proCopy_st {v : Vs} {A : Option Addr} {c g : Nat} (hs : St w0 X (.blk g 59 (vcl v A c) :: L) w) (hn : v.n.length = 32) (h1 : 1 ≤ v.p.sec.length) : Calls Try.prog 19 #[.pointer (some ⟨g, 0, none⟩)] w fun e w' => ∃ g2, e = .returned (.pointer (some ⟨g2, 0, none⟩)) ∧ St w0 X (.blk g2 59 (vcl v A c) :: .blk g 59 (vcl v A c) :: L) w' := by
 obtain ⟨VL, hVL⟩ : ∃ VL, VL = vcl v A c := ⟨_, rfl⟩
 obtain ⟨PL, hPL⟩ : ∃ PL, PL = pcl v.p A c := ⟨_, rfl⟩
 obtain ⟨Z, hZ, hZl⟩ : ∃ Z, (Try.prog.info? 59).bind (fun i => i.zero.map (·.cells.toList)) = some Z ∧ Z.length = 41 := ⟨[.slice none 0 0, .string ⟨#[]⟩, .string ⟨#[]⟩, .int .u8 0, .int .u8 0, .int .u16 0, .int .u32 0] ++ z32.map v8 ++ [.bool false, .bool false], by kernel_rfl, by decide⟩
 have hZ := Lib.hid hZ
 have ZL := Lib.hid hZl
 have VLL := Lib.hid (show VL.length = 41 by rw [hVL]; exact vcl_len hn A c)
 have VO := Lib.hid (show ∀ x ∈ VL, x.oneCell' = true by rw [hVL]; exact vcl_one v A c)
 have PLL := Lib.hid (show PL.length = 3 by rw [hPL]; rfl)
 have RP := Lib.hid (show ∀ L, Reads (.blk g 59 VL :: L) (some ⟨g, 0, none⟩) PL by intro L; rw [hVL, hPL]; exact vcl_rd v A c g _ L)
 have CN : Hid (∀ w, St w0 X (.blk g 59 VL :: L) w → Calls Try.prog 25 #[.agg PL.toArray] w fun e w' => e = .returned (.bool false) ∧ St w0 X (.blk g 59 VL :: L) w') := Lib.hid (fun w hs => by rw [hPL]; exact none_st hs v.p A c h1)
 rw [← hVL] at hs ⊢
 clear hVL hPL hZl h1 hn
 go_enter Try.func19, Try.ntmps19
 go_wp2_with (first | ((with_reducible refine Se.isL (o := ⟨some 10, _, _, _, _, _⟩) ?_); (refine Se.toL rfl (Se.ldw (o := ⟨some 10, _, _, _, _, _⟩) hs rfl rfl ((RP.out _)) ((by rw [PLL.out]; kernel_rfl)) (by kernel_rfl) ?_))) | ((with_reducible refine Se.isL (o := ⟨some 15, _, _, _, _, _⟩) ?_); (refine Se.toL rfl (Se.ldw (o := ⟨some 15, _, _, _, _, _⟩) hs rfl rfl ((Reads.blk 0 rfl)) ((by rw [VLL.out]; kernel_rfl)) (by kernel_rfl) ?_))) | ((with_reducible refine Se.isL (o := ⟨some 3, _, _, _, _, _⟩) ?_); (refine Se.toL rfl (Se.al (o := ⟨some 3, _, _, _, _, _⟩) hs rfl (hZ.out) ?_); clear hs; rintro w g3 - hs)) | ((with_reducible refine Se.isL (o := ⟨none, _, _, _, _, _⟩) ?_); (refine Se.toL rfl (Se.sow 0 hs rfl rfl rfl rfl (VO.out) ((by rw [VLL.out]; kernel_rfl)) ((by rw [VLL.out, ZL.out])) ?_); clear hs; intro w hs; try simp only [List.cons_append, List.nil_append, List.set_cons_zero] at hs)) | (go_at_call 25; refine Calls.mono (CN.out _ hs) ?_; clear hs; rintro e w ⟨rfl, hs⟩))
 go_ret
 exact ⟨g3, rfl, hs⟩
end Au
end Go.Proofs.Ytakdoijemopejaa

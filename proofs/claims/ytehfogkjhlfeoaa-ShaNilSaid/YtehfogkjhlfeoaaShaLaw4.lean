/- The laws ShaSteps and ShaNil, walked. -/
import Derived.Test.YtehfogkjhlfeoaaShaLaw2
import Derived.Test.YtehfogkjhlfeoaaShaSumN
namespace Go.Proofs.Ytehfogkjhlfeoaa
open Go Go.RowKit
open Se Li
namespace Sha
open Bv (n8 n16 n32 n64)
attribute [local irreducible] shaL hmacL stepL
set_option maxHeartbeats 2000000 in
theorem nil_any {A : Option Addr} {n c : Nat} {bs : List (BitVec 8)} (w : World) (hR : Rd w A (bs.map v8)) :
    Calls Try.prog 9 #[.slice A n c] w fun e w' => e = .returned (.bool true) ∧ Below w.heap.size w w' := by
  have hs : St w [] [.rd A (bs.map v8)] w := St.start w (by simpa [At.holds] using hR) rfl
  obtain ⟨RV, hRV⟩ : ∃ R, R = (shaL []).map v8 := ⟨_, rfl⟩
  have HRV := Lib.hid hRV
  have HI := Lib.hid (show ∀ i, i < 32 → ∃ z, RV[i]? = some (.int .u8 z) by rw [hRV]; exact ints32 (shaL_length _))
  have SN := Lib.hid (fun (wx : World) => sumnil_any [] rfl wx)
  rw [← hRV] at SN
  clear hRV hR
  by_cases hlt : 100 < n
  · have hli : (100 : Int) < (n : Int) := by omega
    clear hlt
    go_enter Try.func9, Try.ntmps9
    go_wp2_with (first | (go_at_call 10; refine Calls.mono (known_st hs) ?_; clear hs; rintro e w ⟨rfl, hs⟩))
    go_ret
    exact ⟨rfl, hs.below⟩
  · have hli : (n : Int) ≤ 100 := by omega
    clear hlt
    go_enter Try.func9, Try.ntmps9
    go_wp2_with (first | (go_at_call 21; refine Calls.mono (wnil_any _ _ _) ?_; rintro e w' ⟨rfl, rfl⟩) | (go_at_call 22; fail))
    refine Calls.mono (SN.out _) ?_
    rintro e w ⟨rfl, hb⟩
    replace hs := hs.ext hb
    clear hb
    go_wp2_with (first | (go_at_call 13; refine Calls.mono (rsha_st hs HRV.out Reads.nil rfl (by simp)) ?_; clear hs; rintro e w ⟨rfl, hs⟩) | (refine Se.toL rfl (Se.eqa (o := ⟨some 16, _, _, _, _, _⟩) rfl rfl rfl Try.underlying25 Try.underlying5 ec5 ei5 em25 HI.out ?_)) | (go_at_call 23; refine Calls.mono (lnil_any) ?_; rintro e w' ⟨rfl, rfl⟩) | (go_at_call 24; refine Calls.mono (cnil_any) ?_; rintro e w' ⟨rfl, rfl⟩) | (go_at_call 10; refine Calls.mono (known_st hs) ?_; clear hs; rintro e w ⟨rfl, hs⟩))
    go_ret
    exact ⟨rfl, hs.below⟩
theorem em33 : Try.prog.eqGuardType Try.prog.depth 33 = false := by kernel_rfl
theorem em31 : Try.prog.eqGuardType Try.prog.depth 31 = false := by kernel_rfl
theorem ec30 : Try.prog.cellsOf 30 = 1 := by kernel_rfl
theorem ei30 : (Try.prog.info? 30).isSome = true := by kernel_rfl
theorem zero33 : (Try.prog.info? 33).bind (fun i => i.zero.map (·.cells.toList)) = some (List.replicate 64 (v32 0#32)) := by kernel_rfl
theorem zero31 : (Try.prog.info? 31).bind (fun i => i.zero.map (·.cells.toList)) = some (List.replicate 8 (v32 0#32)) := by kernel_rfl
theorem ints_v32 {R : List (BitVec 32)} {n : Nat} (h : R.length = n) : ∀ i, i < n → ∃ z, (R.map v32)[i]? = some (.int .u32 z) := fun i hi => ⟨n32 (R.getD i 0), by simp [h, hi, v32]⟩
set_option maxHeartbeats 4000000 in
theorem steps_any (s : List (BitVec 32)) (bs : List (BitVec 8)) (hs8 : s.length = 8) (hb64 : bs.length = 64) {SV BV : List Value} (hSV : SV = s.map v32) (hBV : BV = bs.map v8) (w : World) :
    Calls Try.prog 6 #[.agg SV.toArray, .agg BV.toArray] w fun e w' => e = .returned (.bool true) ∧ Below w.heap.size w w' := by
  have hs : St w [] [] w := St.start w (by simp) rfl
  obtain ⟨K, hK⟩ : ∃ K, K = K64.map v32 := ⟨_, rfl⟩
  obtain ⟨H, hH⟩ : ∃ H, H = H8.map v32 := ⟨_, rfl⟩
  obtain ⟨R, hR⟩ : ∃ R, R = (stepL K64 s bs).map v32 := ⟨_, rfl⟩
  have C1 := Lib.hid (fun wx => constants_any wx)
  have C2 := Lib.hid (fun wx => rconstants_any wx)
  rw [K_same, H_same, ← hK, ← hH] at C2
  rw [← hK, ← hH] at C1
  have S1 := Lib.hid (fun wx => step_any s bs hs8 hb64 wx)
  have S2 := Lib.hid (fun wx => rfullstep_any s bs hs8 hb64 wx)
  rw [← hR, ← hSV, ← hBV] at S1 S2
  have lK := Lib.hid (show K.length = 64 by rw [hK, List.length_map, K64_length])
  have lH := Lib.hid (show H.length = 8 by rw [hH, List.length_map, H8_length])
  have lS := Lib.hid (show SV.length = 8 by rw [hSV, List.length_map, hs8])
  have lB := Lib.hid (show BV.length = 64 by rw [hBV, List.length_map, hb64])
  have oK := Lib.hid (show ∀ v ∈ K, v.oneCell' = true by rw [hK]; exact map32_one K64)
  have oH := Lib.hid (show ∀ v ∈ H, v.oneCell' = true by rw [hH]; exact map32_one H8)
  have IK := Lib.hid (show ∀ i, i < 64 → ∃ z, K[i]? = some (.int .u32 z) by rw [hK]; exact ints_v32 K64_length)
  have IH := Lib.hid (show ∀ i, i < 8 → ∃ z, H[i]? = some (.int .u32 z) by rw [hH]; exact ints_v32 H8_length)
  have IR := Lib.hid (show ∀ i, i < 8 → ∃ z, R[i]? = some (.int .u32 z) by rw [hR]; exact ints_v32 (stepL_length _ _ _ hs8))
  have k0 := Lib.hid (show K[0]? = some (.int .u32 1116352408) by rw [hK, K64_lit]; rfl)
  have h0 := Lib.hid (show H[0]? = some (.int .u32 1779033703) by rw [hH, H8_lit]; rfl)
  obtain ⟨ZK, hZK⟩ : ∃ Z, Z = List.replicate 64 (v32 0#32) := ⟨_, rfl⟩
  obtain ⟨ZH, hZH⟩ : ∃ Z, Z = List.replicate 8 (v32 0#32) := ⟨_, rfl⟩
  have z33 := zero33
  have z31 := zero31
  rw [← hZK] at z33
  rw [← hZH] at z31
  have Z33 := Lib.hid z33
  have Z31 := Lib.hid z31
  have lZK := Lib.hid (show ZK.length = 64 by rw [hZK]; simp)
  have lZH := Lib.hid (show ZH.length = 8 by rw [hZH]; simp)
  clear hK hH hR z33 z31 hZK hZH hs8 hb64 hSV hBV
  go_enter Try.func6, Try.ntmps6
  go_wp2_with (first | ((with_reducible refine Se.isL (o := ⟨some 2, _, _, _, _, _⟩) ?_); (refine Se.toL rfl (Se.bx (o := ⟨some 2, _, _, _, _, _⟩) hs rfl rfl (l := SV) rfl ?_); clear hs; rintro w g2 - hs)) | ((with_reducible refine Se.isL (o := ⟨some 3, _, _, _, _, _⟩) ?_); (refine Se.toL rfl (Se.bx (o := ⟨some 3, _, _, _, _, _⟩) hs rfl rfl (l := BV) rfl ?_); clear hs; rintro w g3 - hs)) | (go_at_call 17; fail))
  refine Calls.mono (C1.out _) ?_
  rintro e w ⟨rfl, hb⟩
  replace hs := hs.ext hb
  clear hb
  go_wp2_with (first | ((with_reducible refine Se.isL (o := ⟨some 5, _, _, _, _, _⟩) ?_); (refine Se.toL rfl (Se.al (o := ⟨some 5, _, _, _, _, _⟩) hs rfl Z33.out ?_); clear hs; rintro w g5 - hs)) | ((with_reducible refine Se.isL (o := ⟨some 6, _, _, _, _, _⟩) ?_); (refine Se.toL rfl (Se.al (o := ⟨some 6, _, _, _, _, _⟩) hs rfl Z31.out ?_); clear hs; rintro w g6 - hs)) | ((with_reducible refine Se.isL (o := ⟨none, _, _, _, _, _⟩) ?_); (refine Se.toL rfl (Se.sow 1 hs rfl rfl rfl rfl (oK.out) ((by rw [lK.out]; kernel_rfl)) ((by rw [lK.out, lZK.out])) ?_); clear hs; intro w hs; try simp only [List.set_cons_zero, List.set_cons_succ] at hs)) | ((with_reducible refine Se.isL (o := ⟨none, _, _, _, _, _⟩) ?_); (refine Se.toL rfl (Se.sow 0 hs rfl rfl rfl rfl (oH.out) ((by rw [lH.out]; kernel_rfl)) ((by rw [lH.out, lZH.out])) ?_); clear hs; intro w hs; try simp only [List.set_cons_zero] at hs)) | (go_at_call 18; fail))
  refine Calls.mono (C2.out _) ?_
  rintro e w ⟨rfl, hb⟩
  replace hs := hs.ext hb
  clear hb
  go_wp2_with (first | ((with_reducible refine Se.isL (o := ⟨some 7, _, _, _, _, _⟩) ?_); (refine Se.toL rfl (Se.al (o := ⟨some 7, _, _, _, _, _⟩) hs rfl Z33.out ?_); clear hs; rintro w g7 - hs)) | ((with_reducible refine Se.isL (o := ⟨some 8, _, _, _, _, _⟩) ?_); (refine Se.toL rfl (Se.al (o := ⟨some 8, _, _, _, _, _⟩) hs rfl Z31.out ?_); clear hs; rintro w g8 - hs)) | ((with_reducible refine Se.isL (o := ⟨none, _, _, _, _, _⟩) ?_); (refine Se.toL rfl (Se.sow 1 hs rfl rfl rfl rfl (oK.out) ((by rw [lK.out]; kernel_rfl)) ((by rw [lK.out, lZK.out])) ?_); clear hs; intro w hs; try simp only [List.set_cons_zero, List.set_cons_succ] at hs)) | ((with_reducible refine Se.isL (o := ⟨none, _, _, _, _, _⟩) ?_); (refine Se.toL rfl (Se.sow 0 hs rfl rfl rfl rfl (oH.out) ((by rw [lH.out]; kernel_rfl)) ((by rw [lH.out, lZH.out])) ?_); clear hs; intro w hs; try simp only [List.set_cons_zero] at hs)))
  refine Ch.region' 31 (fun wx => ∀ a ∈ [At.blk g8 31 H, .blk g7 33 K, .blk g6 31 H, .blk g5 33 K, .blk g3 32 BV, .blk g2 31 SV], a.holds wx) (fun | 21 => true | 24 => true | 28 => true | _ => false) (by kernel_rfl) (by kernel_rfl) (hs.drew.hold) ?_
  replace hs := hs.drew
  generalize w.drew = w at hs ⊢
  change Ch.CW _ _ _ _ _ [0, 1, 2, 3, 4, 5, 6, 7, 8, 9, 10, 11, 12, 13, 14, 15, 16, 17, 18, 19, 20, 21, 22, 23, 24, 25, 26, 27, 28, 29, 30] _ _
  refine Ch.pure (v := .agg K.toArray) (by rfl) (by rfl) (by rfl) (fun wx hS => Se.xla rfl rfl (Rd.of_blk (hS (.blk g5 33 K) (by simp))) (by rw [lK.out]; kernel_rfl) (by kernel_rfl)) ?_
  (try simp only [Act.put, List.setIfInBounds_toArray, List.set_cons_zero, List.set_cons_succ])
  refine Ch.pure (v := .agg K.toArray) (by rfl) (by rfl) (by rfl) (fun wx hS => Se.xla rfl rfl (Rd.of_blk (hS (.blk g7 33 K) (by simp))) (by rw [lK.out]; kernel_rfl) (by kernel_rfl)) ?_
  (try simp only [Act.put, List.setIfInBounds_toArray, List.set_cons_zero, List.set_cons_succ])
  refine Ch.pure (v := .bool true) (by rfl) (by rfl) (by rfl) (fun wx hS => Se.xeq rfl rfl rfl Try.underlying33 Try.underlying30 ec30 ei30 em33 IK.out) ?_
  (try simp only [Act.put, List.setIfInBounds_toArray, List.set_cons_zero, List.set_cons_succ])
  iterate 1 (refine Ch.pure (v := ?_) (by rfl) (by rfl) (by rfl) (fun wx hS => ?_) ?_; rotate_left; (focus (go_simp; (first | done | with_reducible rfl))); (try simp only [Act.put, List.setIfInBounds_toArray, List.set_cons_zero, List.set_cons_succ]))
  refine Ch.pure (v := .agg H.toArray) (by rfl) (by rfl) (by rfl) (fun wx hS => Se.xla rfl rfl (Rd.of_blk (hS (.blk g6 31 H) (by simp))) (by rw [lH.out]; kernel_rfl) (by kernel_rfl)) ?_
  (try simp only [Act.put, List.setIfInBounds_toArray, List.set_cons_zero, List.set_cons_succ])
  refine Ch.pure (v := .agg H.toArray) (by rfl) (by rfl) (by rfl) (fun wx hS => Se.xla rfl rfl (Rd.of_blk (hS (.blk g8 31 H) (by simp))) (by rw [lH.out]; kernel_rfl) (by kernel_rfl)) ?_
  (try simp only [Act.put, List.setIfInBounds_toArray, List.set_cons_zero, List.set_cons_succ])
  refine Ch.pure (v := .bool true) (by rfl) (by rfl) (by rfl) (fun wx hS => Se.xeq rfl rfl rfl Try.underlying31 Try.underlying30 ec30 ei30 em31 IH.out) ?_
  (try simp only [Act.put, List.setIfInBounds_toArray, List.set_cons_zero, List.set_cons_succ])
  iterate 3 (refine Ch.pure (v := ?_) (by rfl) (by rfl) (by rfl) (fun wx hS => ?_) ?_; rotate_left; (focus (go_simp; (first | done | with_reducible rfl))); (try simp only [Act.put, List.setIfInBounds_toArray, List.set_cons_zero, List.set_cons_succ]))
  refine Ch.pure (v := .int .u32 1116352408) (by rfl) (by rfl) (by rfl) (fun wx hS => Se.xl rfl rfl ((Li.Blk.cell (hS (.blk g5 33 K) (by simp)) 0).trans k0.out) (by kernel_rfl)) ?_
  (try simp only [Act.put, List.setIfInBounds_toArray, List.set_cons_zero, List.set_cons_succ])
  iterate 4 (refine Ch.pure (v := ?_) (by rfl) (by rfl) (by rfl) (fun wx hS => ?_) ?_; rotate_left; (focus (go_simp; (first | done | with_reducible rfl))); (try simp only [Act.put, List.setIfInBounds_toArray, List.set_cons_zero, List.set_cons_succ]))
  refine Ch.pure (v := .int .u32 1779033703) (by rfl) (by rfl) (by rfl) (fun wx hS => Se.xl rfl rfl ((Li.Blk.cell (hS (.blk g6 31 H) (by simp)) 0).trans h0.out) (by kernel_rfl)) ?_
  (try simp only [Act.put, List.setIfInBounds_toArray, List.set_cons_zero, List.set_cons_succ])
  iterate 3 (refine Ch.pure (v := ?_) (by rfl) (by rfl) (by rfl) (fun wx hS => ?_) ?_; rotate_left; (focus (go_simp; (first | done | with_reducible rfl))); (try simp only [Act.put, List.setIfInBounds_toArray, List.set_cons_zero, List.set_cons_succ]))
  refine Ch.pure (v := .agg SV.toArray) (by rfl) (by rfl) (by rfl) (fun wx hS => Se.xla rfl rfl (Rd.of_blk (hS (.blk g2 31 SV) (by simp))) (by rw [lS.out]; kernel_rfl) (by kernel_rfl)) ?_
  (try simp only [Act.put, List.setIfInBounds_toArray, List.set_cons_zero, List.set_cons_succ])
  refine Ch.pure (v := .agg BV.toArray) (by rfl) (by rfl) (by rfl) (fun wx hS => Se.xla rfl rfl (Rd.of_blk (hS (.blk g3 32 BV) (by simp))) (by rw [lB.out]; kernel_rfl) (by kernel_rfl)) ?_
  (try simp only [Act.put, List.setIfInBounds_toArray, List.set_cons_zero, List.set_cons_succ])
  refine Ch.noise (by rfl) (by rfl) (by rfl) ?_
  refine Se.gcall (f := 19) (args := #[.agg SV.toArray, .agg BV.toArray]) ?_ ?_
  · go_simp
  refine Calls.mono (S1.out _) ?_
  rintro e w ⟨rfl, hb⟩
  replace hs := hs.ext hb
  clear hb
  refine ⟨_, rfl, hs.hold, ?_⟩
  (try simp only [Act.put, List.setIfInBounds_toArray, List.set_cons_zero, List.set_cons_succ])
  refine Ch.pure (v := .agg SV.toArray) (by rfl) (by rfl) (by rfl) (fun wx hS => Se.xla rfl rfl (Rd.of_blk (hS (.blk g2 31 SV) (by simp))) (by rw [lS.out]; kernel_rfl) (by kernel_rfl)) ?_
  (try simp only [Act.put, List.setIfInBounds_toArray, List.set_cons_zero, List.set_cons_succ])
  refine Ch.pure (v := .agg BV.toArray) (by rfl) (by rfl) (by rfl) (fun wx hS => Se.xla rfl rfl (Rd.of_blk (hS (.blk g3 32 BV) (by simp))) (by rw [lB.out]; kernel_rfl) (by kernel_rfl)) ?_
  (try simp only [Act.put, List.setIfInBounds_toArray, List.set_cons_zero, List.set_cons_succ])
  refine Ch.noise (by rfl) (by rfl) (by rfl) ?_
  refine Se.gcall (f := 20) (args := #[.agg SV.toArray, .agg BV.toArray]) ?_ ?_
  · go_simp
  refine Calls.mono (S2.out _) ?_
  rintro e w ⟨rfl, hb⟩
  replace hs := hs.ext hb
  clear hb
  refine ⟨_, rfl, hs.hold, ?_⟩
  (try simp only [Act.put, List.setIfInBounds_toArray, List.set_cons_zero, List.set_cons_succ])
  refine Ch.pure (v := .bool true) (by rfl) (by rfl) (by rfl) (fun wx hS => Se.xeq rfl rfl rfl Try.underlying31 Try.underlying30 ec30 ei30 em31 IR.out) ?_
  (try simp only [Act.put, List.setIfInBounds_toArray, List.set_cons_zero, List.set_cons_succ])
  iterate 2 (refine Ch.pure (v := ?_) (by rfl) (by rfl) (by rfl) (fun wx hS => ?_) ?_; rotate_left; (focus (go_simp; (first | done | with_reducible rfl))); (try simp only [Act.put, List.setIfInBounds_toArray, List.set_cons_zero, List.set_cons_succ]))
  refine Ch.noise (by rfl) (by rfl) (by rfl) ?_
  refine Se.gcall (f := 10) (args := #[]) ?_ ?_
  · go_simp
  refine Calls.mono (known_st hs) ?_
  clear hs
  rintro e w ⟨rfl, hs⟩
  refine ⟨_, rfl, hs.hold, ?_⟩
  (try simp only [Act.put, List.setIfInBounds_toArray, List.set_cons_zero, List.set_cons_succ])
  iterate 2 (refine Ch.pure (v := ?_) (by rfl) (by rfl) (by rfl) (fun wx hS => ?_) ?_; rotate_left; (focus (go_simp; (first | done | with_reducible rfl))); (try simp only [Act.put, List.setIfInBounds_toArray, List.set_cons_zero, List.set_cons_succ]))
  refine Ch.done ?_
  simp only [List.drop_succ_cons, List.drop_zero]
  go_wp2_with fail
  go_ret
  exact ⟨rfl, hs.below⟩
end Sha
end Go.Proofs.Ytehfogkjhlfeoaa

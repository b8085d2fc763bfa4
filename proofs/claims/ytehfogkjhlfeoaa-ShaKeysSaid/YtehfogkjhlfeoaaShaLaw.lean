/- The laws ShaSums and ShaCodes, walked. -/
import Derived.Test.YtehfogkjhlfeoaaShaIs
namespace Go.Proofs.Ytehfogkjhlfeoaa
open Go Go.RowKit
open Se Li
namespace Sha
open Bv (n8 n16 n32 n64)
attribute [local irreducible] shaL hmacL
set_option maxHeartbeats 2000000 in
theorem known_st {w0 w : World} {X : List Nat} {L : List At} (hs : St w0 X L w) :
    Calls Try.prog 10 #[] w fun e w' => e = .returned (.bool true) ∧ St w0 X L w' := by
  obtain ⟨R1, hR1⟩ : ∃ R, R = (shaL []).map v8 := ⟨_, rfl⟩
  obtain ⟨R2, hR2⟩ : ∃ R, R = (shaL abcL).map v8 := ⟨_, rfl⟩
  obtain ⟨R3, hR3⟩ : ∃ R, R = (hmacL jefeL whatL).map v8 := ⟨_, rfl⟩
  have H1 := Lib.hid hR1
  have H2 := Lib.hid hR2
  have H3 := Lib.hid hR3
  have a1 := Lib.hid (show n32 (fstW (shaL [])) = 3820012610 ∧ n32 (lstW (shaL [])) = 2018687061 by rw [shaC_eq, ex1.1, ex1.2]; exact ⟨rfl, rfl⟩)
  have a2 := Lib.hid (show n32 (fstW (shaL abcL)) = 3128432319 ∧ n32 (lstW (shaL abcL)) = 4060091821 by rw [shaC_eq, ex2.1, ex2.2]; exact ⟨rfl, rfl⟩)
  have a3 := Lib.hid (show n32 (fstW (hmacL jefeL whatL)) = 1541194054 ∧ n32 (lstW (hmacL jefeL whatL)) = 1693202499 by rw [hmacC_eq _ _ (by decide), ex3.1, ex3.2]; exact ⟨rfl, rfl⟩)
  clear hR1 hR2 hR3
  go_enter Try.func10, Try.ntmps10
  go_wp2_with (first | (go_at_call 12; fail))
  refine Calls.mono (sha_st hs H1.out Reads.nil rfl (by simp)) ?_
  clear hs; rintro e w ⟨rfl, hs⟩
  go_wp2_with (first | (go_at_call 25; fail))
  refine Calls.mono (is_st hs _ (shaL_length _) H1.out a1.out.1 a1.out.2) ?_
  clear hs; rintro e w ⟨rfl, hs⟩
  go_wp2_with (first | ((first | refine Se.ab hs ?_ | refine Se.abc hs ?_); clear hs; generalize w.heap.size = b1; intro w hs) | (refine Se.toL rfl (Se.cvs (o := ⟨some 5, _, _, _, _, _⟩) (g := b1) hs rfl rfl Try.underlying22 Try.underlying5 ?_); clear hs; intro w hs) | (go_at_call 12; fail))
  refine Calls.mono (sha_st hs H2.out (Reads.rd 0 rfl) rfl (by decide)) ?_
  clear hs; rintro e w ⟨rfl, hs⟩
  go_wp2_with (first | (go_at_call 25; fail))
  refine Calls.mono (is_st hs _ (shaL_length _) H2.out a2.out.1 a2.out.2) ?_
  clear hs; rintro e w ⟨rfl, hs⟩
  go_wp2_with (first | ((first | refine Se.ab hs ?_ | refine Se.abc hs ?_); clear hs; generalize w.heap.size = b2; intro w hs) | (refine Se.toL rfl (Se.cvs (o := ⟨some 11, _, _, _, _, _⟩) (g := b2) hs rfl rfl Try.underlying22 Try.underlying5 ?_); clear hs; intro w hs) | (refine Se.toL rfl (Se.cvs (o := ⟨some 13, _, _, _, _, _⟩) (g := b2) hs rfl rfl Try.underlying22 Try.underlying5 ?_); clear hs; intro w hs) | (go_at_call 15; fail))
  refine Calls.mono (hmac_st hs jefeL whatL _ _ _ _ _ _ rfl rfl (by decide) (by decide) (Reads.rd 1 rfl) (Reads.rd 0 rfl)) ?_
  clear hs; rintro e w ⟨rfl, hs⟩
  rw [← H3.out]
  go_wp2_with (first | (go_at_call 25; fail))
  refine Calls.mono (is_st hs _ (hmacL_length _ _) H3.out a3.out.1 a3.out.2) ?_
  clear hs; rintro e w ⟨rfl, hs⟩
  go_wp2_with fail
  go_ret
  exact ⟨rfl, hs.drop.drop.drop⟩
theorem em25 : Try.prog.eqGuardType Try.prog.depth 25 = false := by kernel_rfl
theorem ec5 : Try.prog.cellsOf 5 = 1 := by kernel_rfl
theorem ei5 : (Try.prog.info? 5).isSome = true := by kernel_rfl
theorem ints32 {R : List (BitVec 8)} (h : R.length = 32) : ∀ i, i < 32 → ∃ z, (R.map v8)[i]? = some (.int .u8 z) := fun i hi => ⟨n8 (R.getD i 0), by simp [h, hi, v8]⟩
set_option maxHeartbeats 1000000 in
theorem sums_any {A : Option Addr} {n c : Nat} {bs : List (BitVec 8)} (w : World) (hR : Rd w A (bs.map v8)) (hn : n = bs.length) :
    Calls Try.prog 3 #[.slice A n c] w fun e w' => e = .returned (.bool true) ∧ Below w.heap.size w w' := by
  have hs : St w [] [.rd A (bs.map v8)] w := St.start w (by simpa [At.holds] using hR) rfl
  obtain ⟨RV, hRV⟩ : ∃ R, R = (shaL bs).map v8 := ⟨_, rfl⟩
  have HRV := Lib.hid hRV
  have HI := Lib.hid (show ∀ i, i < 32 → ∃ z, RV[i]? = some (.int .u8 z) by rw [hRV]; exact ints32 (shaL_length _))
  have HN := Lib.hid hn
  clear hn hRV hR
  by_cases hlt : 300 < n
  · have hli : (300 : Int) < (n : Int) := by omega
    clear hlt
    go_enter Try.func3, Try.ntmps3
    go_wp2_with (first | (go_at_call 10; refine Calls.mono (known_st hs) ?_; clear hs; rintro e w ⟨rfl, hs⟩))
    go_ret
    exact ⟨rfl, hs.below⟩
  · have hli : (n : Int) ≤ 300 := by omega
    have h300 : n ≤ 300 := by omega
    clear hlt
    go_enter Try.func3, Try.ntmps3
    go_wp2_with (first | (go_at_call 11; refine Calls.mono (own_st hs (Reads.rd 0 rfl) (v8_one _) (by rw [List.length_map, HN.out]) (by omega)) ?_; clear hs; rintro e w ⟨A1, c1, r1, rfl, hs⟩) | (go_at_call 12; refine Calls.mono (sha_st hs HRV.out (Reads.own 0 rfl) HN.out (by have := HN.out; omega)) ?_; clear hs; rintro e w ⟨rfl, hs⟩) | (go_at_call 13; refine Calls.mono (rsha_st hs HRV.out (Reads.rd 1 rfl) HN.out (by have := HN.out; omega)) ?_; clear hs; rintro e w ⟨rfl, hs⟩) | (refine Se.toL rfl (Se.eqa (o := ⟨some 14, _, _, _, _, _⟩) rfl rfl rfl Try.underlying25 Try.underlying5 ec5 ei5 em25 HI.out ?_)) | (go_at_call 14; refine Calls.mono (same_st hs (Reads.own 0 rfl) (Reads.rd 1 rfl) HN.out HN.out rfl) ?_; rintro e w' ⟨rfl, rfl⟩) | (go_at_call 10; refine Calls.mono (known_st hs) ?_; clear hs; rintro e w ⟨rfl, hs⟩))
    go_ret
    exact ⟨rfl, hs.below⟩
end Sha
end Go.Proofs.Ytehfogkjhlfeoaa

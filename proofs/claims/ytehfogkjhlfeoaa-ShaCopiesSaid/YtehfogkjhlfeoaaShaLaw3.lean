/- The law ShaCopies, walked. -/
import Derived.Test.YtehfogkjhlfeoaaShaLaw2
namespace Go.Proofs.Ytehfogkjhlfeoaa
open Go Go.RowKit
open Se Li
namespace Sha
open Bv (n8 n16 n32 n64)
attribute [local irreducible] shaL hmacL
set_option maxHeartbeats 4000000 in
theorem copies_any {A B C : Option Addr} {n m k c d f : Nat} {bs os ts : List (BitVec 8)} (w : World) (hR1 : Rd w A (bs.map v8)) (hn : n = bs.length) (hR2 : Rd w B (os.map v8)) (hm : m = os.length) (hR3 : Rd w C (ts.map v8)) (hk : k = ts.length) :
    Calls Try.prog 8 #[.slice A n c, .slice B m d, .slice C k f] w fun e w' => e = .returned (.bool true) ∧ Below w.heap.size w w' := by
  have hs : St w [] [.rd A (bs.map v8), .rd B (os.map v8), .rd C (ts.map v8)] w := St.start w (by simpa [At.holds] using ⟨hR1, hR2, hR3⟩) rfl
  obtain ⟨R0, hR0⟩ : ∃ R, R = (shaL bs).map v8 := ⟨_, rfl⟩
  obtain ⟨Ra, hRa⟩ : ∃ R, R = (shaL (bs ++ os)).map v8 := ⟨_, rfl⟩
  obtain ⟨Rb, hRb⟩ : ∃ R, R = (shaL (bs ++ ts)).map v8 := ⟨_, rfl⟩
  have I0 := Lib.hid (show ∀ i, i < 32 → ∃ z, R0[i]? = some (.int .u8 z) by rw [hR0]; exact ints32 (shaL_length _))
  have Ia := Lib.hid (show ∀ i, i < 32 → ∃ z, Ra[i]? = some (.int .u8 z) by rw [hRa]; exact ints32 (shaL_length _))
  have Ib := Lib.hid (show ∀ i, i < 32 → ∃ z, Rb[i]? = some (.int .u8 z) by rw [hRb]; exact ints32 (shaL_length _))
  have H0 := Lib.hid hR0
  have Ha := Lib.hid hRa
  have Hb := Lib.hid hRb
  have HN := Lib.hid hn
  have HM := Lib.hid hm
  have HK := Lib.hid hk
  obtain ⟨ZD, hZD⟩ : ∃ Z, Z = chW zs8 zs64 false (.slice none 0 0) (.int .i64 0) := ⟨_, rfl⟩
  have z42 := zero42'
  rw [← hZD] at z42
  have Z42 := Lib.hid z42
  have HZD := Lib.hid hZD
  have eA : (bs ++ os).map v8 = bs.map v8 ++ os.map v8 := List.map_append
  have eB : (bs ++ ts).map v8 = bs.map v8 ++ ts.map v8 := List.map_append
  have EA := Lib.hid eA
  have EB := Lib.hid eB
  clear hR1 hR2 hR3 hR0 hRa hRb hn hm hk z42 hZD eA eB
  have key : 200 < n ∨ (n ≤ 200 ∧ 200 < m) ∨ (n ≤ 200 ∧ m ≤ 200 ∧ 200 < k) ∨ (n ≤ 200 ∧ m ≤ 200 ∧ k ≤ 200) := by omega
  rcases key with h | ⟨h1, h⟩ | ⟨h1, h2, h⟩ | ⟨h1, h2, h3⟩
  · have hli : (200 : Int) < (n : Int) := by omega
    clear h
    go_enter Try.func8, Try.ntmps8
    go_wp2_with (first | (go_at_call 10; refine Calls.mono (known_st hs) ?_; clear hs; rintro e w ⟨rfl, hs⟩))
    go_ret
    exact ⟨rfl, hs.below⟩
  · have hl1 : (n : Int) ≤ 200 := by omega
    have hli : (200 : Int) < (m : Int) := by omega
    clear h h1
    go_enter Try.func8, Try.ntmps8
    go_wp2_with (first | (go_at_call 10; refine Calls.mono (known_st hs) ?_; clear hs; rintro e w ⟨rfl, hs⟩))
    go_ret
    exact ⟨rfl, hs.below⟩
  · have hl1 : (n : Int) ≤ 200 := by omega
    have hl2 : (m : Int) ≤ 200 := by omega
    have hli : (200 : Int) < (k : Int) := by omega
    clear h h1 h2
    go_enter Try.func8, Try.ntmps8
    go_wp2_with (first | (go_at_call 10; refine Calls.mono (known_st hs) ?_; clear hs; rintro e w ⟨rfl, hs⟩))
    go_ret
    exact ⟨rfl, hs.below⟩
  · have hl1 : (n : Int) ≤ 200 := by omega
    have hl2 : (m : Int) ≤ 200 := by omega
    have hl3 : (k : Int) ≤ 200 := by omega
    have ln := Lib.hid (show bs.length ≤ 200 by have := HN.out; omega)
    have lm := Lib.hid (show os.length ≤ 200 by have := HM.out; omega)
    have lk := Lib.hid (show ts.length ≤ 200 by have := HK.out; omega)
    go_enter Try.func8, Try.ntmps8
    go_wp2_with (first | ((with_reducible refine Se.isL (o := ⟨some 7, _, _, _, _, _⟩) ?_); (refine Se.toL rfl (Se.al (o := ⟨some 7, _, _, _, _, _⟩) hs rfl Z42.out ?_); clear hs; rintro w D - hs)) | (go_at_call 21; fail))
    replace hs := Da.zero HZD.out hs
    refine Calls.mono (write_st hs HN.out (by have := ln.out; simp; omega) (Reads.rd 0 rfl)) ?_
    clear hs; rintro e w ⟨rfl, r1, hs⟩
    rw [List.nil_append] at hs
    go_wp2_with (first | (go_at_call 24; fail))
    refine Calls.mono (copy_st hs (Da.get hs)) ?_
    clear hs; rintro e w ⟨C', rc, rfl, hs⟩
    go_wp2_with (first | (go_at_call 22; refine Calls.mono (sum_st hs (Da.get hs) H0.out (by have := ln.out; omega)) ?_; clear hs; rintro e w ⟨rfl, hs⟩) | (go_at_call 13; refine Calls.mono (rsha_st hs H0.out (Reads.rd 2 rfl) HN.out (by have := ln.out; omega)) ?_; clear hs; rintro e w ⟨rfl, hs⟩) | (refine Se.toL rfl (Se.nea (o := ⟨some 35, _, _, _, _, _⟩) rfl rfl rfl Try.underlying25 Try.underlying5 ec5 ei5 em25 I0.out ?_)) | (go_at_call 21; fail))
    refine Calls.mono (write_st (hs.pull 1 rfl) HM.out (by have := ln.out; have := lm.out; omega) (Reads.rd 2 rfl)) ?_
    clear hs; rintro e w ⟨rfl, r2, hs⟩
    go_wp2_with (first | (go_at_call 21; fail))
    refine Calls.mono (write_st (hs.pull 1 rfl) HK.out (by have := ln.out; have := lk.out; omega) (Reads.rd 3 rfl)) ?_
    clear hs; rintro e w ⟨rfl, r3, hs⟩
    go_wp2_with (first | (go_at_call 11; fail))
    refine Calls.mono (own_st hs (Reads.rd 2 rfl) (v8_one _) (by rw [List.length_map, HN.out]) (by omega)) ?_
    clear hs; rintro e w ⟨A1, c1, q1, rfl, hs⟩
    simp only [List.eraseIdx_cons_succ, List.eraseIdx_cons_zero] at hs
    go_wp2_with (first | ((with_reducible refine Se.isL (o := ⟨some 45, _, _, _, _, _⟩) ?_); (refine Se.toL rfl (Se.ap (o := ⟨some 45, _, _, _, _, _⟩) 0 hs rfl rfl rfl rfl ((Reads.rd 4 rfl)) Try.underlying22 info5' rfl (by decide) ((v8_one _)) ((by rw [List.length_map, HM.out, Nat.mul_one])) ((by omega)) ((by omega)) ?_); clear hs; rintro w q2 A2 c2 hs; try simp only [List.set_cons_zero] at hs)) | (go_at_call 11; fail))
    rw [← EA.out] at hs
    refine Calls.mono (own_st hs (Reads.rd 3 rfl) (v8_one _) (by rw [List.length_map, HN.out]) (by omega)) ?_
    clear hs; rintro e w ⟨A3, c3, q3, rfl, hs⟩
    go_wp2_with (first | ((with_reducible refine Se.isL (o := ⟨some 49, _, _, _, _, _⟩) ?_); (refine Se.toL rfl (Se.ap (o := ⟨some 49, _, _, _, _, _⟩) 0 hs rfl rfl rfl rfl ((Reads.rd 6 rfl)) Try.underlying22 info5' rfl (by decide) ((v8_one _)) ((by rw [List.length_map, HK.out, Nat.mul_one])) ((by omega)) ((by omega)) ?_); clear hs; rintro w q4 A4 c4 hs; try simp only [List.set_cons_zero] at hs)) | (go_at_call 22; fail))
    rw [← EB.out] at hs
    trace_state
    refine Calls.mono (sum_st hs (Da.at 3 hs rfl) Ha.out (by have := ln.out; have := lm.out; simp; omega)) ?_
    clear hs; rintro e w ⟨rfl, hs⟩
    go_wp2_with (first | (go_at_call 13; refine Calls.mono (rsha_st hs Ha.out (Reads.own 1 rfl) (by rw [List.length_append, ← HN.out, ← HM.out]) (by have := ln.out; have := lm.out; simp; omega)) ?_; clear hs; rintro e w ⟨rfl, hs⟩) | (refine Se.toL rfl (Se.eqa (o := ⟨some 53, _, _, _, _, _⟩) rfl rfl rfl Try.underlying25 Try.underlying5 ec5 ei5 em25 Ia.out ?_)) | (go_at_call 22; fail))
    refine Calls.mono (sum_st hs (Da.at 2 hs rfl) Hb.out (by have := ln.out; have := lk.out; simp; omega)) ?_
    clear hs; rintro e w ⟨rfl, hs⟩
    go_wp2_with (first | (go_at_call 13; refine Calls.mono (rsha_st hs Hb.out (Reads.own 0 rfl) (by rw [List.length_append, ← HN.out, ← HK.out]) (by have := ln.out; have := lk.out; simp; omega)) ?_; clear hs; rintro e w ⟨rfl, hs⟩) | (refine Se.toL rfl (Se.eqa (o := ⟨some 59, _, _, _, _, _⟩) rfl rfl rfl Try.underlying25 Try.underlying5 ec5 ei5 em25 Ib.out ?_)) | (go_at_call 23; fail))
    refine Calls.mono (len_st (Da.at 3 hs rfl) (m := n + m) (by rw [List.length_append, ← HN.out, ← HM.out])) ?_
    rintro e w' ⟨rfl, rfl⟩
    go_wp2_with (first | (go_at_call 23; fail))
    refine Calls.mono (len_st (Da.at 2 hs rfl) (m := n + k) (by rw [List.length_append, ← HN.out, ← HK.out])) ?_
    rintro e w' ⟨rfl, rfl⟩
    go_wp2_with (first | (go_at_call 10; refine Calls.mono (known_st hs) ?_; clear hs; rintro e w ⟨rfl, hs⟩))
    go_ret
    exact ⟨rfl, hs.below⟩
end Sha
end Go.Proofs.Ytehfogkjhlfeoaa

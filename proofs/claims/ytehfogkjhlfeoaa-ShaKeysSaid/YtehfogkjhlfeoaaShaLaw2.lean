/- The laws ShaCodes, ShaParts, ShaCopies, walked. -/
import Derived.Test.YtehfogkjhlfeoaaShaDg
namespace Go.Proofs.Ytehfogkjhlfeoaa
open Go Go.RowKit
open Se Li
namespace Sha
open Bv (n8 n16 n32 n64)
attribute [local irreducible] shaL hmacL
theorem hmac_r {w0 w : World} {X : List Nat} {L : List At} (hs : St w0 X L w) {key msg : List (BitVec 8)} {R : List Value} (hR : R = (hmacL key msg).map v8) {A B : Option Addr} {n m c d : Nat} (hn : n = key.length) (hm : m = msg.length) (hkl : key.length ≤ 549755813888) (hml : msg.length ≤ 274877906944) (hk : Reads L A (key.map v8)) (hg : Reads L B (msg.map v8)) :
    Calls Try.prog 15 #[.slice A n c, .slice B m d] w fun e w' => e = .returned (.agg R.toArray) ∧ St w0 X L w' := by subst hR; exact hmac_st hs key msg A B n m c d hn hm hkl hml hk hg
theorem rhmac_r {w0 w : World} {X : List Nat} {L : List At} (hs : St w0 X L w) {key msg : List (BitVec 8)} {R : List Value} (hR : R = (hmacL key msg).map v8) {A B : Option Addr} {n m c d : Nat} (hn : n = key.length) (hm : m = msg.length) (hkl : key.length ≤ 549755813888) (hml : msg.length ≤ 274877906944) (hk : Reads L A (key.map v8)) (hg : Reads L B (msg.map v8)) :
    Calls Try.prog 16 #[.slice A n c, .slice B m d] w fun e w' => e = .returned (.agg R.toArray) ∧ St w0 X L w' := by subst hR; exact rhmac_st hs key msg A B n m c d hn hm hkl hml hk hg
set_option maxHeartbeats 2000000 in
theorem codes_any {A B : Option Addr} {n c m d : Nat} {bs ms : List (BitVec 8)} (w : World) (hR : Rd w A (bs.map v8)) (hn : n = bs.length) (hR2 : Rd w B (ms.map v8)) (hm : m = ms.length) :
    Calls Try.prog 4 #[.slice A n c, .slice B m d] w fun e w' => e = .returned (.bool true) ∧ Below w.heap.size w w' := by
  have hs : St w [] [.rd A (bs.map v8), .rd B (ms.map v8)] w := St.start w (by simpa [At.holds] using ⟨hR, hR2⟩) rfl
  obtain ⟨RV, hRV⟩ : ∃ R, R = (hmacL bs ms).map v8 := ⟨_, rfl⟩
  have HRV := Lib.hid hRV
  have HI := Lib.hid (show ∀ i, i < 32 → ∃ z, RV[i]? = some (.int .u8 z) by rw [hRV]; exact ints32 (hmacL_length _ _))
  have HN := Lib.hid hn
  have HM := Lib.hid hm
  clear hn hRV hR hm hR2
  by_cases h1 : 200 < n
  · have hli : (200 : Int) < (n : Int) := by omega
    clear h1
    go_enter Try.func4, Try.ntmps4
    go_wp2_with (first | (go_at_call 10; refine Calls.mono (known_st hs) ?_; clear hs; rintro e w ⟨rfl, hs⟩))
    go_ret
    exact ⟨rfl, hs.below⟩
  · have hl1 : (n : Int) ≤ 200 := by omega
    have hn2 : n ≤ 200 := by omega
    clear h1
    by_cases h2 : 200 < m
    · have hli : (200 : Int) < (m : Int) := by omega
      clear h2
      go_enter Try.func4, Try.ntmps4
      go_wp2_with (first | (go_at_call 10; refine Calls.mono (known_st hs) ?_; clear hs; rintro e w ⟨rfl, hs⟩))
      go_ret
      exact ⟨rfl, hs.below⟩
    · have hl2 : (m : Int) ≤ 200 := by omega
      have hm2 : m ≤ 200 := by omega
      clear h2
      go_enter Try.func4, Try.ntmps4
      go_wp2_with (first | (go_at_call 11; fail))
      refine Calls.mono (own_st hs (Reads.rd 0 rfl) (v8_one _) (by rw [List.length_map, HN.out]) (by omega)) ?_
      clear hs; rintro e w ⟨A1, c1, r1, rfl, hs⟩
      go_wp2_with (first | (go_at_call 11; fail))
      refine Calls.mono (own_st hs (Reads.rd 2 rfl) (v8_one _) (by rw [List.length_map, HM.out]) (by omega)) ?_
      clear hs; rintro e w ⟨A2, c2, r2, rfl, hs⟩
      go_wp2_with (first | (go_at_call 15; refine Calls.mono (hmac_r hs HRV.out HN.out HM.out (by have := HN.out; omega) (by have := HM.out; omega) (Reads.own 1 rfl) (Reads.own 0 rfl)) ?_; clear hs; rintro e w ⟨rfl, hs⟩) | (go_at_call 16; refine Calls.mono (rhmac_r hs HRV.out HN.out HM.out (by have := HN.out; omega) (by have := HM.out; omega) (Reads.rd 2 rfl) (Reads.rd 3 rfl)) ?_; clear hs; rintro e w ⟨rfl, hs⟩) | (refine Se.toL rfl (Se.eqa (o := ⟨some 26, _, _, _, _, _⟩) rfl rfl rfl Try.underlying25 Try.underlying5 ec5 ei5 em25 HI.out ?_)) | (go_at_call 14; fail))
      refine Calls.mono (same_st hs (Reads.own 1 rfl) (Reads.rd 2 rfl) HN.out HN.out rfl) ?_
      rintro e w' ⟨rfl, rfl⟩
      go_wp2_with (first | (go_at_call 14; fail))
      refine Calls.mono (same_st hs (Reads.own 0 rfl) (Reads.rd 3 rfl) HM.out HM.out rfl) ?_
      rintro e w' ⟨rfl, rfl⟩
      go_wp2_with (first | (go_at_call 10; refine Calls.mono (known_st hs) ?_; clear hs; rintro e w ⟨rfl, hs⟩))
      go_ret
      exact ⟨rfl, hs.below⟩
theorem zero42' : (Try.prog.info? 42).bind (fun i => i.zero.map (·.cells.toList)) = some (chW zs8 zs64 false (.slice none 0 0) (.int .i64 0)) := by kernel_rfl
def Pa := Option Addr × Nat × List (BitVec 8)
def sl (p : Pa) : Value := .slice p.1 p.2.2.length p.2.1
def rdP (p : Pa) : At := .rd p.1 (p.2.2.map v8)
def allP (l : List Pa) : List (BitVec 8) := (l.map (·.2.2)).flatten
theorem allP_snoc (l : List Pa) (i : Nat) (h : i < l.length) : allP (l.take (i + 1)) = allP (l.take i) ++ l[i].2.2 := by
  unfold allP
  rw [List.take_succ_eq_append_getElem h, List.map_append, List.flatten_append]; simp only [List.map_cons, List.map_nil, List.flatten_cons, List.flatten_nil, List.append_nil]
theorem allP_le (l : List Pa) (h : ∀ p ∈ l, p.2.2.length ≤ 200) : (allP l).length ≤ 200 * l.length := by
  induction l with
  | nil => simp [allP]
  | cons p l ih =>
    have h1 := h p List.mem_cons_self
    have h2 := ih fun q hq => h q (List.mem_cons_of_mem _ hq)
    simp only [allP, List.map_cons, List.flatten_cons, List.length_append, List.length_cons] at h2 ⊢
    omega
set_option maxHeartbeats 4000000 in
theorem parts_any {A : Option Addr} {n c : Nat} {l : List Pa} (w0 : World) (hR : Rd w0 A (l.map sl)) (hn : n = l.length) (hP : ∀ p ∈ l, Rd w0 p.1 (p.2.2.map v8)) :
    Calls Try.prog 7 #[.slice A n c] w0 fun e w' => e = .returned (.bool true) ∧ Below w0.heap.size w0 w' := by
  have hs : St w0 [] (.rd A (l.map sl) :: l.map rdP) w0 := St.start w0 (by
    intro a ha
    rcases List.mem_cons.1 ha with rfl | ha
    · exact hR
    · obtain ⟨p, hp, rfl⟩ := List.mem_map.1 ha
      exact hP p hp) (by
    have : ∀ (l : List Pa), ownedL (l.map rdP) = [] := by
      intro l; induction l with
      | nil => rfl
      | cons p l ih => exact ih
    exact this l)
  obtain ⟨L0, hL0⟩ : ∃ L0, L0 = .rd A (l.map sl) :: l.map rdP := ⟨_, rfl⟩
  have r0 : Reads L0 A (l.map sl) := by rw [hL0]; exact Reads.rd 0 rfl
  have rp : ∀ (i : Nat) (h : i < l.length), Reads L0 l[i].1 (l[i].2.2.map v8) := fun i h => by
    rw [hL0]; exact Reads.rdm (List.mem_cons_of_mem _ (List.mem_map.2 ⟨l[i], List.getElem_mem h, rfl⟩))
  rw [← hL0] at hs
  obtain ⟨ZD, hZD⟩ : ∃ Z, Z = chW zs8 zs64 false (.slice none 0 0) (.int .i64 0) := ⟨_, rfl⟩
  have z42 := zero42'
  rw [← hZD] at z42
  have Z42 := Lib.hid z42
  have HZD := Lib.hid hZD
  have HN := Lib.hid hn
  have RP := Lib.hid rp
  have hR1 := Lib.hid hR
  clear z42 hZD hL0 rp hP hR
  by_cases hlt : 10 < n
  · have hli : (10 : Int) < (n : Int) := by omega
    clear hlt hn
    go_enter Try.func7, Try.ntmps7
    go_wp2_with (first | (go_at_call 10; refine Calls.mono (known_st hs) ?_; clear hs; rintro e w ⟨rfl, hs⟩))
    go_ret
    exact ⟨rfl, hs.below⟩
  · have hli : (n : Int) ≤ 10 := by omega
    have h10 : n ≤ 10 := by omega
    clear hlt hn
    go_enter Try.func7, Try.ntmps7
    go_wp2_with (first | ((with_reducible refine Se.isL (o := ⟨some 3, _, _, _, _, _⟩) ?_); (refine Se.toL rfl (Se.al (o := ⟨some 3, _, _, _, _, _⟩) hs rfl Z42.out ?_); clear hs; rintro w D - hs)))
    replace hs := (Da.zero HZD.out hs).nil_own 1 none
    go_loopg [4, 5] n (fun gh s4 s5 wr => ∃ (i m : Nat) (A1 : Option Addr) (c1 : Nat) (r1 r2 : Option Nat) (M : List (BitVec 8)), gh = n - i ∧ i ≤ n ∧ s5 = .int .i64 i ∧ s4 = .slice A1 m c1 ∧ Hid (m = M.length ∧ M = allP (l.take i) ∧ m ≤ 200 * i) ∧ St w0 [] (.own 1 r1 A1 m c1 (M.map v8) :: Da D r2 M :: L0) wr)
    case atStart => exact ⟨0, 0, none, 0, none, none, [], rfl, by omega, rfl, rfl, Lib.hid ⟨rfl, by simp [allP], by simp⟩, hs⟩
    case round =>
      clear hs
      rename World => w
      obtain ⟨i, m, A1, c1, r1, r2, M, rfl, hi, rfl, rfl, HM, hs⟩ := hrel
      by_cases hlt : i < n
      · have hil : i < l.length := by have := HN.out; omega
        have hlti : (i : Int) < (n : Int) := by omega
        obtain ⟨g0, off0, rfl, _, _⟩ := hR1.out.cells (by intro h; have := congrArg List.length h; simp at this; subst this; simp at hil)
        have hv : (l.map sl)[i]? = some (sl l[i]) := by simp [hil]
        have hrp := RP.out i hil
        have hsn := Lib.hid (allP_snoc l i hil)
        obtain ⟨⟨Ai, ci, bi⟩, hp⟩ : ∃ p, p = l[i] := ⟨_, rfl⟩
        obtain ⟨ni, hni⟩ : ∃ ni, ni = bi.length := ⟨_, rfl⟩
        rw [← hp] at hv hrp hsn
        have HV := Lib.hid (show (l.map sl)[i]? = some (.slice Ai ni ci) by rw [hv, hni]; rfl)
        have HNI := Lib.hid hni
        have hrp1 : Reads L0 Ai (bi.map v8) := hrp
        clear hv hp hni hil hrp
        by_cases h200 : 200 < ni
        · have hli2 : (200 : Int) < (ni : Int) := by omega
          clear h200
          go_wp2_with (first | ((with_reducible refine Se.isL (o := ⟨some 19, _, _, _, _, _⟩) ?_); (refine Se.toL rfl (Se.ld (o := ⟨some 19, _, _, _, _, _⟩) hs rfl rfl ((r0.mono (by intro _ h; simp only [List.mem_cons, h, or_true])).cell i HV.out) (by kernel_rfl) ?_))) | (go_at_call 10; refine Calls.mono (known_st hs) ?_; clear hs; rintro e w ⟨rfl, hs⟩))
          go_ret
          exact ⟨rfl, hs.below⟩
        · have hli2 : (ni : Int) ≤ 200 := by omega
          have h2 : ni ≤ 200 := by omega
          clear h200
          have hm := HM.out.1
          have hml : m ≤ 2000 := by have := HM.out.2.2; omega
          obtain ⟨M', hM'⟩ : ∃ M', M' = M ++ bi := ⟨_, rfl⟩
          have hl' : M'.length = m + ni := by rw [hM', List.length_append, hm, HNI.out]
          obtain ⟨RV, hRV⟩ : ∃ R, R = (shaL M').map v8 := ⟨_, rfl⟩
          have HRV := Lib.hid hRV
          have HI := Lib.hid (show ∀ i, i < 32 → ∃ z, RV[i]? = some (.int .u8 z) by rw [hRV]; exact ints32 (shaL_length _))
          have HL := Lib.hid hl'
          have HM' := Lib.hid hM'
          have Hm := Lib.hid hm
          clear hm hM' hl' hRV
          go_wp2_with (first | ((with_reducible refine Se.isL (o := ⟨some 19, _, _, _, _, _⟩) ?_); (refine Se.toL rfl (Se.ld (o := ⟨some 19, _, _, _, _, _⟩) hs rfl rfl ((r0.mono (by intro _ h; simp only [List.mem_cons, h, or_true])).cell i HV.out) (by kernel_rfl) ?_))) | ((with_reducible refine Se.isL (o := ⟨some 26, _, _, _, _, _⟩) ?_); (refine Se.toL rfl (Se.ld (o := ⟨some 26, _, _, _, _, _⟩) hs rfl rfl ((r0.mono (by intro _ h; simp only [List.mem_cons, h, or_true])).cell i HV.out) (by kernel_rfl) ?_))) | (go_at_call 21; fail))
          refine Calls.mono (write_st (hs.pull 1 rfl) HNI.out (by have := Hm.out; have := HNI.out; omega) (hrp1.cons _)) ?_
          clear hs; rintro e w ⟨rfl, r3, hs⟩
          simp only [List.eraseIdx_cons_succ, List.eraseIdx_cons_zero] at hs
          rw [← HM'.out] at hs
          go_wp2_with (first | ((with_reducible refine Se.isL (o := ⟨some 33, _, _, _, _, _⟩) ?_); (refine Se.toL rfl (Se.ld (o := ⟨some 33, _, _, _, _, _⟩) hs rfl rfl ((r0.mono (by intro _ h; simp only [List.mem_cons, h, or_true])).cell i HV.out) (by kernel_rfl) ?_))) | ((with_reducible refine Se.isL (o := ⟨some 34, _, _, _, _, _⟩) ?_); (refine Se.toL rfl (Se.ap (o := ⟨some 34, _, _, _, _, _⟩) 1 hs rfl rfl rfl rfl ((hrp1.mono (by intro _ h; simp only [List.mem_cons, h, or_true]))) Try.underlying22 info5' rfl (by decide) ((v8_one _)) ((by rw [List.length_map, HNI.out, Nat.mul_one])) ((by omega)) ((by omega)) ?_); clear hs; rintro w r4 A4 c4 hs; try simp only [List.set_cons_zero, List.set_cons_succ] at hs)) | (go_at_call 22; fail))
          rw [← List.map_append, ← HM'.out] at hs
          refine Calls.mono (sum_st hs (Da.get hs) HRV.out (by rw [HL.out]; omega)) ?_
          clear hs; rintro e w ⟨rfl, hs⟩
          go_wp2_with (first | (go_at_call 12; refine Calls.mono (sha_st hs HRV.out (Reads.own 1 rfl) HL.out.symm (by rw [HL.out]; omega)) ?_; clear hs; rintro e w ⟨rfl, hs⟩) | (refine Se.toL rfl (Se.nea (o := ⟨some 38, _, _, _, _, _⟩) rfl rfl rfl Try.underlying25 Try.underlying5 ec5 ei5 em25 HI.out ?_)) | (go_at_call 23; fail))
          refine Calls.mono (len_st (Da.get hs) HL.out.symm) ?_
          rintro e w' ⟨rfl, rfl⟩
          go_wp2_with (first | (go_at_call 22; fail))
          refine Calls.mono (sum_st hs (Da.get hs) HRV.out (by rw [HL.out]; omega)) ?_
          clear hs; rintro e w ⟨rfl, hs⟩
          go_wp2_with (first | (go_at_call 12; refine Calls.mono (sha_st hs HRV.out (Reads.own 1 rfl) HL.out.symm (by rw [HL.out]; omega)) ?_; clear hs; rintro e w ⟨rfl, hs⟩) | (refine Se.toL rfl (Se.nea (o := ⟨some 49, _, _, _, _, _⟩) rfl rfl rfl Try.underlying25 Try.underlying5 ec5 ei5 em25 HI.out ?_)))
          go_roundg (n - (i + 1))
          case measure => omega
          case rel =>
            refine ⟨i + 1, m + ni, A4, c4, r4, r3, M', rfl, by omega, by go_num, rfl, Lib.hid ⟨HL.out.symm, ?_, ?_⟩, ?_⟩
            · rw [hsn.out, ← HM.out.2.1, HM'.out]
            · have := HM.out.2.2; omega
            · exact hs.pull 1 rfl
      · have hni : ¬ (i : Int) < (n : Int) := by omega
        go_wp2_with (first | (go_at_call 10; refine Calls.mono (known_st hs) ?_; clear hs; rintro e w ⟨rfl, hs⟩))
        go_ret
        exact ⟨rfl, hs.below⟩
end Sha
end Go.Proofs.Ytehfogkjhlfeoaa

/- The law PathPlays, walked. -/
import Derived.Test.YtplhelhijjmlaaaPathAct
import Derived.Test.YtplhelhijjmlaaaPathIs
import Derived.Test.YtplhelhijjmlaaaOrd
set_option linter.unusedSimpArgs false
set_option linter.unusedVariables false
namespace Go.Proofs.Ytplhelhijjmlaaa
open Go Go.RowKit
namespace Pa
open Se (St At Reads Cell)
attribute [local irreducible] Calls
variable {w0 w : World} {X : List Nat} {L : List At}
theorem rnew_no (hs : St w0 X L w) {n t : Int} (h : newP n t = none) :
    Calls Try.prog 25 #[.int .i64 n, .int .i64 t] w fun e w' => e = .returned (.tuple #[.agg #[.int .i64 0, .slice none 0 0], .int .i64 2]) ∧ St w0 X L w' := by
  have := rnew_st hs n t
  rwa [h] at this
theorem rnew_yes (hs : St w0 X L w) {n t : Int} {p : PP} (h : newP n t = some p) :
    Calls Try.prog 25 #[.int .i64 n, .int .i64 t] w fun e w' => ∃ A c, e = .returned (.tuple #[rv p A c, .int .i64 0]) ∧ St w0 X (.rd A (cells p.l) :: L) w' := by
  have := rnew_st hs n t
  rwa [h] at this
set_option maxRecDepth 100000 in
set_option maxHeartbeats 8000000 in
theorem plays_st {B : Option Addr} {cb : Nat} (l : List AA) (hs : St w0 X L w) (hB : At.rd B (l.flatMap ac) ∈ L) (hA : ∀ a ∈ l, okSt a.st) (n t many : Int) :
    Calls Try.prog 6 #[.int .i64 n, .int .i64 t, .slice B l.length cb, .int .i64 many] w fun e w' => e = .returned (.bool true) ∧ St w0 X L w' := by
  have HB := Lib.hid hB
  have HA := Lib.hid hA
  obtain ⟨m, hm⟩ : ∃ m, m = l.length := ⟨_, rfl⟩
  have HN := Lib.hid hm
  rw [← hm]
  clear hB hA hm
  by_cases h50 : 50 < (m : Int)
  · go_enter Try.func6, Try.ntmps6
    go_wp2_with (first | (go_at_call 11; refine Calls.mono (works_st hs) ?_; clear hs; rintro e w ⟨rfl, hs⟩))
    go_ret
    exact ⟨rfl, hs⟩
  · have T1 : decide (50 < (m : Int)) = false := decide_eq_false h50
    have hm50 : m ≤ 50 := by omega
    clear h50
    rcases hq : newP n t with _ | q
    · have E2 := Lib.hid hq
      have E1 := Lib.hid (show newP1 n t = none by rw [new_map, hq]; rfl)
      clear hq
      go_enter Try.func6, Try.ntmps6
      go_upto_region 7 with (first | ((with_reducible refine Se.isL (o := ⟨some 11, _, _, _, _, _⟩) ?_); (refine Se.toL rfl (Se.al (o := ⟨some 11, _, _, _, _, _⟩) hs rfl (rfl) ?_); clear hs; rintro w g11 - hs)) | ((with_reducible refine Se.isL (o := ⟨none, Op.store 59 _ _, _, _, _, _⟩) ?_); (refine Se.toL rfl (Se.sow 0 hs rfl rfl rfl rfl ((by simp [Value.oneCell'])) ((by kernel_rfl)) (rfl) ?_); clear hs; intro w hs; try simp only [List.set_cons_zero] at hs)) | (go_at_call 12; refine Calls.mono (new_no hs E1.out) ?_; clear hs; rintro e w ⟨rfl, hs⟩) | (go_at_call 25; refine Calls.mono (rnew_no hs E2.out) ?_; clear hs; rintro e w ⟨rfl, hs⟩) | (go_at_call 13; refine Calls.mono (num_st hs _) ?_; clear hs; rintro e w ⟨rfl, hs⟩))
      go_wp2_with fail
      go_loopg [13] 0 (fun gh s13 wr => gh = 0 ∧ s13 = .int .i64 0 ∧ St w0 X (.blk g11 59 [.int .i64 0, .slice none 0 0] :: L) wr)
      case atStart => exact ⟨rfl, rfl, hs⟩
      case round =>
        clear hs
        rename World => w
        obtain ⟨rfl, rfl, hs⟩ := hrel
        have T2 : (0 : Int) < (m : Int) ∨ m = 0 := by omega
        rcases T2 with T2 | rfl
        all_goals
          go_wp2_with (first | (go_at_call 11; refine Calls.mono (works_st hs) ?_; clear hs; rintro e w ⟨rfl, hs⟩))
          go_ret
          exact ⟨rfl, hs.drop⟩
    · have E2 := Lib.hid hq
      have E1 := Lib.hid (show newP1 n t = some (mapP q) by rw [new_map, hq]; rfl)
      have HQ := Lib.hid (newP_ok hq).1
      clear hq
      go_enter Try.func6, Try.ntmps6
      go_upto_region 7 with (first | ((with_reducible refine Se.isL (o := ⟨some 11, _, _, _, _, _⟩) ?_); (refine Se.toL rfl (Se.al (o := ⟨some 11, _, _, _, _, _⟩) hs rfl (rfl) ?_); clear hs; rintro w g11 - hs)) | ((with_reducible refine Se.isL (o := ⟨none, Op.store 59 _ _, _, _, _, _⟩) ?_); (refine Se.toL rfl (Se.sow 0 hs rfl rfl rfl rfl ((by simp [Value.oneCell'])) ((by kernel_rfl)) (rfl) ?_); clear hs; intro w hs; try simp only [List.set_cons_zero] at hs)) | (go_at_call 12; refine Calls.mono (new_yes hs E1.out) ?_; clear hs; rintro e w ⟨D, gg, rfl, hs⟩) | (go_at_call 25; refine Calls.mono (rnew_yes hs E2.out) ?_; clear hs; rintro e w ⟨A, c, rfl, hs⟩) | (go_at_call 13; refine Calls.mono (num_st hs _) ?_; clear hs; rintro e w ⟨rfl, hs⟩))
      go_wp2_with fail
      go_loopg [9, 13] m (fun gh s9 s13 wr => ∃ (i D g off c1 : Nat) (A : Option Addr) (c : Nat) (q : PP), gh = m - i ∧ i ≤ m ∧ s9 = .pointer (some ⟨D, 0, none⟩) ∧ s13 = .int .i64 i ∧ Hid (OkP q) ∧ St w0 X (pD D (some ⟨g, off, none⟩) c1 (mapP q) :: pG g off c1 (mapP q) :: .rd A (cells q.l) :: .blk g11 59 [.int .i64 q.tries, .slice A q.l.length c] :: L) wr)
      case atStart => exact ⟨0, D, gg, 0, _, A, c, q, rfl, by omega, rfl, rfl, HQ, hs.u11.u22⟩
      case round =>
        clear hs HQ E1 E2
        rename World => w
        obtain ⟨i, D, g, off, c1, A, c, q, rfl, hi, rfl, rfl, HQ, hs⟩ := hrel
        by_cases hlt : i < m
        · have hlt' : (i : Int) < (m : Int) := by omega
          have hil : i < l.length := by have := HN.out; omega
          have hne : l.flatMap ac ≠ [] := by
            intro h
            have h2 := flat_get (f := ac) (k := 10) l i 0 hil (by omega) (fun _ _ => rfl)
            rw [h] at h2
            simp at h2
          obtain ⟨gb, ob, rfl⟩ := hs.rd_at (List.mem_cons_of_mem _ (List.mem_cons_of_mem _ (List.mem_cons_of_mem _ (List.mem_cons_of_mem _ HB.out)))) hne
          have HE := Lib.hid (show ∀ L' : List At, At.rd (some ⟨gb, ob, none⟩) (l.flatMap ac) ∈ L' → Reads L' (some ⟨gb, ob + i * 10, none⟩) (ac l[i]) from fun L' h => Se.Reads.elem (f := ac) (k := 10) (fun _ _ => rfl) (Reads.rdm h) hil)
          have HAA := Lib.hid (HA.out l[i] (List.getElem_mem hil))
          obtain ⟨a, ha⟩ : ∃ a, a = l[i] := ⟨_, rfl⟩
          rw [← ha] at HE HAA
          obtain ⟨q', hq'⟩ : ∃ q', actP q a = q' := ⟨_, rfl⟩
          have HQ1 := Lib.hid hq'
          have HQ' := Lib.hid (hq' ▸ actP_ok HQ.out a)
          have HC1 := Lib.hid (show ∀ L' : List At, At.rd (some ⟨gb, ob, none⟩) (l.flatMap ac) ∈ L' → Cell L' gb (ob + i * 10 + 1) (.int .i64 a.i) from fun L' h => (HE.out L' h).cell 1 rfl)
          have HC2 := Lib.hid (show ∀ L' : List At, At.rd (some ⟨gb, ob, none⟩) (l.flatMap ac) ∈ L' → Cell L' gb (ob + i * 10 + 2) (.int .i64 a.g) from fun L' h => (HE.out L' h).cell 2 rfl)
          have hw := IntWalk.i64_in ((i : Int) + 1) (by omega)
          clear hne ha hq' hil
          go_upto_region 10 with (fail)
          go_cut [14, 15, 16] (fun s14 s15 s16 wx => ∃ (D' g' off' c1' : Nat) (A' : Option Addr) (c' g15 : Nat), s14 = .pointer (some ⟨D', 0, none⟩) ∧ s15 = .pointer (some ⟨g15, 0, none⟩) ∧ s16 = .bool true ∧ St w0 X (pD D' (some ⟨g', off', none⟩) c1' (mapP q') :: pG g' off' c1' (mapP q') :: .rd A' (cells q'.l) :: .blk g15 59 [.int .i64 q'.tries, .slice A' q'.l.length c'] :: .blk g11 59 [.int .i64 q.tries, .slice A q.l.length c] :: L) wx)
          case first =>
            refine Or.region 15 (fun wx => Li.Blk wx g11 [.int .i64 q.tries, .slice A q.l.length c] 59 ∧ Li.Rd wx (some ⟨gb, ob + i * 10, none⟩) (ac a)) (fun | 6 => true | 11 => true | 13 => true | _ => false) (by kernel_rfl) (by decide +kernel) (⟨hs.drew.hold (.blk g11 59 [.int .i64 q.tries, .slice A q.l.length c]) (by simp), HE.out _ (by simp only [List.mem_cons, HB.out, or_true]) _ hs.drew.hold⟩) ?_
            replace hs := hs.drew
            generalize w.drew = w at hs ⊢
            change Or.AW _ _ _ _ _ 15 [0, 1, 2, 3, 4, 5, 6, 7, 8, 9, 10, 11, 12, 13, 14] _ _
            refine Or.pure 0 (v := ?_) (by rfl) (by decide +kernel) (by rfl) (by rfl) (by rfl) (fun wx hS => ?_) ?_; rotate_left; (focus (go_simp; (first | done | with_reducible rfl)))
            (try simp only [Act.put, List.setIfInBounds_toArray, List.set_cons_zero, List.set_cons_succ])
            change Or.AW _ _ _ _ _ 14 [1, 2, 3, 4, 5, 6, 7, 8, 9, 10, 11, 12, 13, 14] _ _
            refine Or.pure 1 (v := rv q A c) (by rfl) (by decide +kernel) (by rfl) (by rfl) (by rfl) (fun wx hS => Se.xla rfl rfl (Li.Rd.of_blk hS.1) (by kernel_rfl) (by kernel_rfl)) ?_
            (try simp only [Act.put, List.setIfInBounds_toArray, List.set_cons_zero, List.set_cons_succ])
            change Or.AW _ _ _ _ _ 13 [2, 3, 4, 5, 6, 7, 8, 9, 10, 11, 12, 13, 14] _ _
            refine Or.pure 2 (v := ?_) (by rfl) (by decide +kernel) (by rfl) (by rfl) (by rfl) (fun wx hS => ?_) ?_; rotate_left; (focus (go_simp; (first | done | with_reducible rfl)))
            (try simp only [Act.put, List.setIfInBounds_toArray, List.set_cons_zero, List.set_cons_succ])
            change Or.AW _ _ _ _ _ 12 [3, 4, 5, 6, 7, 8, 9, 10, 11, 12, 13, 14] _ _
            refine Or.pure 3 (v := ?_) (by rfl) (by decide +kernel) (by rfl) (by rfl) (by rfl) (fun wx hS => ?_) ?_; rotate_left; (focus (go_simp; (first | done | with_reducible rfl)))
            (try simp only [Act.put, List.setIfInBounds_toArray, List.set_cons_zero, List.set_cons_succ])
            change Or.AW _ _ _ _ _ 11 [4, 5, 6, 7, 8, 9, 10, 11, 12, 13, 14] _ _
            refine Or.pure 4 (v := ?_) (by rfl) (by decide +kernel) (by rfl) (by rfl) (by rfl) (fun wx hS => ?_) ?_; rotate_left; (focus (go_simp; (first | done | with_reducible rfl)))
            (try simp only [Act.put, List.setIfInBounds_toArray, List.set_cons_zero, List.set_cons_succ])
            change Or.AW _ _ _ _ _ 10 [5, 6, 7, 8, 9, 10, 11, 12, 13, 14] _ _
            refine Or.pure 5 (v := av a) (by rfl) (by decide +kernel) (by rfl) (by rfl) (by rfl) (fun wx hS => Se.xla rfl rfl hS.2 (by kernel_rfl) (by kernel_rfl)) ?_
            (try simp only [Act.put, List.setIfInBounds_toArray, List.set_cons_zero, List.set_cons_succ])
            change Or.AW _ _ _ _ _ 9 [6, 7, 8, 9, 10, 11, 12, 13, 14] _ _
            refine Or.two 6 11 (by decide +kernel) (by decide +kernel) (by rfl) (by rfl) (by rfl) (by rfl) ?_ ?_
            · skip
              refine Se.gcall (f := 26) (args := #[.pointer (some ⟨D, 0, none⟩), rv q A c, av a]) ?_ ?_
              · go_simp
              refine Calls.mono (act_st' hs List.mem_cons_self HQ.out a HAA.out HQ1.out) ?_
              clear hs
              rintro e w ⟨D', g', off', c1', A', c', rfl, hs⟩
              refine ⟨_, rfl, ⟨hs.hold (.blk g11 59 [.int .i64 q.tries, .slice A q.l.length c]) (by simp), HE.out _ (by simp only [List.mem_cons, HB.out, or_true]) _ hs.hold⟩, ?_⟩
              (try simp only [Act.put, List.setIfInBounds_toArray, List.set_cons_zero, List.set_cons_succ])
              change Or.AW _ _ _ _ _ 8 [7, 8, 9, 10, 11, 12, 13, 14] _ _
              refine Or.pure 7 (v := ?_) (by rfl) (by decide +kernel) (by rfl) (by rfl) (by rfl) (fun wx hS => ?_) ?_; rotate_left; (focus (go_simp; (first | done | with_reducible rfl)))
              (try simp only [Act.put, List.setIfInBounds_toArray, List.set_cons_zero, List.set_cons_succ])
              change Or.AW _ _ _ _ _ 7 [8, 9, 10, 11, 12, 13, 14] _ _
              refine Or.pure 8 (v := ?_) (by rfl) (by decide +kernel) (by rfl) (by rfl) (by rfl) (fun wx hS => ?_) ?_; rotate_left; (focus (go_simp; (first | done | with_reducible rfl)))
              (try simp only [Act.put, List.setIfInBounds_toArray, List.set_cons_zero, List.set_cons_succ])
              change Or.AW _ _ _ _ _ 6 [9, 10, 11, 12, 13, 14] _ _
              refine Or.pure 9 (v := ?_) (by rfl) (by decide +kernel) (by rfl) (by rfl) (by rfl) (fun wx hS => ?_) ?_; rotate_left; (focus (go_simp; (first | done | with_reducible rfl)))
              (try simp only [Act.put, List.setIfInBounds_toArray, List.set_cons_zero, List.set_cons_succ])
              change Or.AW _ _ _ _ _ 5 [10, 11, 12, 13, 14] _ _
              refine Or.pure 10 (v := ?_) (by rfl) (by decide +kernel) (by rfl) (by rfl) (by rfl) (fun wx hS => ?_) ?_; rotate_left; (focus (go_simp; (first | done | with_reducible rfl)))
              (try simp only [Act.put, List.setIfInBounds_toArray, List.set_cons_zero, List.set_cons_succ])
              change Or.AW _ _ _ _ _ 4 [11, 12, 13, 14] _ _
              refine Or.one 11 (by decide +kernel) (by decide +kernel) (by rfl) (by rfl) ?_
              refine Se.al hs rfl rfl ?_
              clear hs
              rintro w g15 - hs
              refine ⟨⟨hs.hold (.blk g11 59 [.int .i64 q.tries, .slice A q.l.length c]) (by simp), HE.out _ (by simp only [List.mem_cons, HB.out, or_true]) _ hs.hold⟩, ?_⟩
              (try simp only [Act.put, List.setIfInBounds_toArray, List.set_cons_zero, List.set_cons_succ])
              change Or.AW _ _ _ _ _ 3 [12, 13, 14] _ _
              refine Or.pure 12 (v := ?_) (by rfl) (by decide +kernel) (by rfl) (by rfl) (by rfl) (fun wx hS => ?_) ?_; rotate_left; (focus (go_simp; (first | done | with_reducible rfl)))
              (try simp only [Act.put, List.setIfInBounds_toArray, List.set_cons_zero, List.set_cons_succ])
              change Or.AW _ _ _ _ _ 2 [13, 14] _ _
              refine Or.one 13 (by decide +kernel) (by decide +kernel) (by rfl) (by rfl) ?_
              refine Se.sow 0 (vs := [.int .i64 q'.tries, .slice A' q'.l.length c']) hs rfl rfl rfl rfl (by simp [Value.oneCell']) (by kernel_rfl) rfl ?_
              clear hs
              intro w hs
              simp only [List.set_cons_zero, List.set_cons_succ] at hs
              refine ⟨⟨hs.hold (.blk g11 59 [.int .i64 q.tries, .slice A q.l.length c]) (by simp), HE.out _ (by simp only [List.mem_cons, HB.out, or_true]) _ hs.hold⟩, ?_⟩
              (try simp only [Act.put])
              change Or.AW _ _ _ _ _ 1 [14] _ _
              refine Or.pure 14 (v := ?_) (by rfl) (by decide +kernel) (by rfl) (by rfl) (by rfl) (fun wx hS => ?_) ?_; rotate_left; (focus (go_simp; (first | done | with_reducible rfl)))
              (try simp only [Act.put, List.setIfInBounds_toArray, List.set_cons_zero, List.set_cons_succ])
              change Or.AW _ _ _ _ _ 0 [] _ _
              refine Or.done ?_
              simp only [List.drop_succ_cons, List.drop_zero]
              go_wp2_with fail
              go_meet
              exact ⟨D', g', off', c1', A', c', g15, rfl, rfl, rfl, hs.u31.sub (by repeat (first | exact List.Sublist.refl _ | refine List.Sublist.cons_cons _ ?_ | refine List.Sublist.cons _ ?_))⟩
            · skip
              refine Se.al hs rfl rfl ?_
              clear hs
              rintro w g15 - hs
              refine ⟨⟨hs.hold (.blk g11 59 [.int .i64 q.tries, .slice A q.l.length c]) (by simp), HE.out _ (by simp only [List.mem_cons, HB.out, or_true]) _ hs.hold⟩, ?_⟩
              (try simp only [Act.put, List.setIfInBounds_toArray, List.set_cons_zero, List.set_cons_succ])
              change Or.AW _ _ _ _ _ 8 [6, 7, 8, 9, 10, 12, 13, 14] _ _
              refine Or.one 6 (by decide +kernel) (by decide +kernel) (by rfl) (by rfl) ?_
              refine Se.gcall (f := 26) (args := #[.pointer (some ⟨D, 0, none⟩), rv q A c, av a]) ?_ ?_
              · go_simp
              refine Calls.mono (act_st' hs.u21 (by simp) HQ.out a HAA.out HQ1.out) ?_
              clear hs
              rintro e w ⟨D', g', off', c1', A', c', rfl, hs⟩
              refine ⟨_, rfl, ⟨hs.hold (.blk g11 59 [.int .i64 q.tries, .slice A q.l.length c]) (by simp), HE.out _ (by simp only [List.mem_cons, HB.out, or_true]) _ hs.hold⟩, ?_⟩
              (try simp only [Act.put, List.setIfInBounds_toArray, List.set_cons_zero, List.set_cons_succ])
              change Or.AW _ _ _ _ _ 7 [7, 8, 9, 10, 12, 13, 14] _ _
              refine Or.pure 7 (v := ?_) (by rfl) (by decide +kernel) (by rfl) (by rfl) (by rfl) (fun wx hS => ?_) ?_; rotate_left; (focus (go_simp; (first | done | with_reducible rfl)))
              (try simp only [Act.put, List.setIfInBounds_toArray, List.set_cons_zero, List.set_cons_succ])
              change Or.AW _ _ _ _ _ 6 [8, 9, 10, 12, 13, 14] _ _
              refine Or.pure 8 (v := ?_) (by rfl) (by decide +kernel) (by rfl) (by rfl) (by rfl) (fun wx hS => ?_) ?_; rotate_left; (focus (go_simp; (first | done | with_reducible rfl)))
              (try simp only [Act.put, List.setIfInBounds_toArray, List.set_cons_zero, List.set_cons_succ])
              change Or.AW _ _ _ _ _ 5 [9, 10, 12, 13, 14] _ _
              refine Or.pure 9 (v := ?_) (by rfl) (by decide +kernel) (by rfl) (by rfl) (by rfl) (fun wx hS => ?_) ?_; rotate_left; (focus (go_simp; (first | done | with_reducible rfl)))
              (try simp only [Act.put, List.setIfInBounds_toArray, List.set_cons_zero, List.set_cons_succ])
              change Or.AW _ _ _ _ _ 4 [10, 12, 13, 14] _ _
              refine Or.pure 10 (v := ?_) (by rfl) (by decide +kernel) (by rfl) (by rfl) (by rfl) (fun wx hS => ?_) ?_; rotate_left; (focus (go_simp; (first | done | with_reducible rfl)))
              (try simp only [Act.put, List.setIfInBounds_toArray, List.set_cons_zero, List.set_cons_succ])
              change Or.AW _ _ _ _ _ 3 [12, 13, 14] _ _
              refine Or.pure 12 (v := ?_) (by rfl) (by decide +kernel) (by rfl) (by rfl) (by rfl) (fun wx hS => ?_) ?_; rotate_left; (focus (go_simp; (first | done | with_reducible rfl)))
              (try simp only [Act.put, List.setIfInBounds_toArray, List.set_cons_zero, List.set_cons_succ])
              change Or.AW _ _ _ _ _ 2 [13, 14] _ _
              refine Or.one 13 (by decide +kernel) (by decide +kernel) (by rfl) (by rfl) ?_
              refine Se.sow 3 (vs := [.int .i64 q'.tries, .slice A' q'.l.length c']) hs rfl rfl rfl rfl (by simp [Value.oneCell']) (by kernel_rfl) rfl ?_
              clear hs
              intro w hs
              simp only [List.set_cons_zero, List.set_cons_succ] at hs
              refine ⟨⟨hs.hold (.blk g11 59 [.int .i64 q.tries, .slice A q.l.length c]) (by simp), HE.out _ (by simp only [List.mem_cons, HB.out, or_true]) _ hs.hold⟩, ?_⟩
              (try simp only [Act.put])
              change Or.AW _ _ _ _ _ 1 [14] _ _
              refine Or.pure 14 (v := ?_) (by rfl) (by decide +kernel) (by rfl) (by rfl) (by rfl) (fun wx hS => ?_) ?_; rotate_left; (focus (go_simp; (first | done | with_reducible rfl)))
              (try simp only [Act.put, List.setIfInBounds_toArray, List.set_cons_zero, List.set_cons_succ])
              change Or.AW _ _ _ _ _ 0 [] _ _
              refine Or.done ?_
              simp only [List.drop_succ_cons, List.drop_zero]
              go_wp2_with fail
              go_meet
              exact ⟨D', g', off', c1', A', c', g15, rfl, rfl, rfl, hs.sub (by repeat (first | exact List.Sublist.refl _ | refine List.Sublist.cons_cons _ ?_ | refine List.Sublist.cons _ ?_))⟩
          case rest =>
          clear hs
          rename World => w
          obtain ⟨D', g', off', c1', A', c', g15, rfl, rfl, rfl, hs⟩ := hcut
          go_upto_region 11 with (fail)
          refine Ch.region' 4 (fun wx => Li.Blk wx g15 [.int .i64 q'.tries, .slice A' q'.l.length c'] 59) (fun | 3 => true | _ => false) (by kernel_rfl) (by decide +kernel) (hs.drew.hold (.blk g15 59 [.int .i64 q'.tries, .slice A' q'.l.length c']) (by simp)) ?_
          replace hs := hs.drew
          generalize w.drew = w at hs ⊢
          change Ch.CW _ _ _ _ _ [0, 1, 2, 3] _ _
          iterate 3 ((first | (refine Ch.pure (v := ?_) (by rfl) (by rfl) (by rfl) (fun wx hS => ?_) ?_; rotate_left; (focus (go_simp; (first | done | with_reducible rfl)))) | refine Ch.pure (v := _) (by rfl) (by rfl) (by rfl) (fun wx hS => Se.xla rfl rfl (Li.Rd.of_blk (hS)) (by kernel_rfl) (by decide +kernel)) ?_); (try simp only [Act.put, List.setIfInBounds_toArray, List.set_cons_zero, List.set_cons_succ]))
          refine Ch.noise (by rfl) (by rfl) (by rfl) (Se.sow 4 (vs := [.int .i64 q'.tries, .slice A' q'.l.length c']) hs rfl rfl rfl rfl (by simp [Value.oneCell']) (by kernel_rfl) rfl ?_)
          clear hs
          intro w hs
          simp only [List.set_cons_zero, List.set_cons_succ] at hs
          refine ⟨hs.hold (.blk g15 59 [.int .i64 q'.tries, .slice A' q'.l.length c']) (by simp), ?_⟩
          (try simp only [Act.put, List.setIfInBounds_toArray, List.set_cons_zero, List.set_cons_succ])
          refine Ch.done ?_
          simp only [List.drop_succ_cons, List.drop_zero]
          go_upto_region 12 with (fail)
          refine Ch.region' 19 (fun wx => Li.Blk wx g11 [.int .i64 q'.tries, .slice A' q'.l.length c'] 59 ∧ wx.cell? ⟨gb, ob + i * 10 + 1, none⟩ = some (.int .i64 a.i) ∧ wx.cell? ⟨gb, ob + i * 10 + 2, none⟩ = some (.int .i64 a.g)) (fun | 16 => true | _ => false) (by kernel_rfl) (by decide +kernel) (⟨hs.drew.hold (.blk g11 59 [.int .i64 q'.tries, .slice A' q'.l.length c']) (by simp), HC1.out _ (by simp only [List.mem_cons, HB.out, or_true]) _ hs.drew.hold, HC2.out _ (by simp only [List.mem_cons, HB.out, or_true]) _ hs.drew.hold⟩) ?_
          replace hs := hs.drew
          generalize w.drew = w at hs ⊢
          change Ch.CW _ _ _ _ _ [0, 1, 2, 3, 4, 5, 6, 7, 8, 9, 10, 11, 12, 13, 14, 15, 16, 17, 18] _ _
          iterate 16 ((first | (refine Ch.pure (v := ?_) (by rfl) (by rfl) (by rfl) (fun wx hS => ?_) ?_; rotate_left; (focus (go_simp; (first | done | with_reducible rfl)))) | refine Ch.pure (v := _) (by rfl) (by rfl) (by rfl) (fun wx hS => Se.xla rfl rfl (Li.Rd.of_blk (hS.1)) (by kernel_rfl) (by decide +kernel)) ?_ | refine Ch.pure (v := _) (by rfl) (by rfl) (by rfl) (fun wx hS => Se.xl rfl rfl hS.2.1 (by kernel_rfl)) ?_ | refine Ch.pure (v := _) (by rfl) (by rfl) (by rfl) (fun wx hS => Se.xl rfl rfl hS.2.2 (by kernel_rfl)) ?_); (try simp only [Act.put, List.setIfInBounds_toArray, List.set_cons_zero, List.set_cons_succ]))
          refine Ch.noise (by rfl) (by rfl) (by rfl) ?_
          refine Se.gcall (f := 27) (args := #[.pointer (some ⟨D', 0, none⟩), rv q' A' c', .int .i64 a.i, .int .i64 a.g, .int .i64 many]) ?_ ?_
          · go_simp
          refine Calls.mono (is_st hs (by simp) HQ'.out a.i a.g many) ?_
          clear hs
          rintro e w ⟨rfl, hs⟩
          refine ⟨_, rfl, ⟨hs.hold (.blk g11 59 [.int .i64 q'.tries, .slice A' q'.l.length c']) (by simp), HC1.out _ (by simp only [List.mem_cons, HB.out, or_true]) _ hs.hold, HC2.out _ (by simp only [List.mem_cons, HB.out, or_true]) _ hs.hold⟩, ?_⟩
          (try simp only [Act.put, List.setIfInBounds_toArray, List.set_cons_zero, List.set_cons_succ])
          iterate 2 (refine Ch.pure (v := ?_) (by rfl) (by rfl) (by rfl) (fun wx hS => ?_) ?_; rotate_left; (focus (go_simp; (first | done | with_reducible rfl))); (try simp only [Act.put, List.setIfInBounds_toArray, List.set_cons_zero, List.set_cons_succ]))
          refine Ch.done ?_
          simp only [List.drop_succ_cons, List.drop_zero]
          go_wp2_with fail
          go_roundg (m - (i + 1))
          case measure => omega
          case rel => exact ⟨i + 1, D', g', off', c1', A', c', q', rfl, by omega, rfl, by go_num, HQ', hs.sub (by repeat (first | exact List.Sublist.refl _ | refine List.Sublist.cons_cons _ ?_ | refine List.Sublist.cons _ ?_))⟩
        · obtain rfl : i = m := by omega
          go_wp2_with (first | (go_at_call 11; refine Calls.mono (works_st hs) ?_; clear hs; rintro e w ⟨rfl, hs⟩))
          go_ret
          exact ⟨rfl, hs.drop.drop.drop.drop⟩
theorem plays_any {W : World} {B : Option Addr} {m cb : Nat} {l : List AA} (n t many : Int) (hm : m = l.length) (hr : Li.Rd W B (l.flatMap ac)) (hA : ∀ a ∈ l, okSt a.st) :
    Calls Try.prog 6 #[.int .i64 n, .int .i64 t, .slice B m cb, .int .i64 many] W fun e w' => e = .returned (.bool true) ∧ Below W.heap.size W w' := by
  subst hm
  exact (plays_st (w0 := W) (X := []) (L := [.rd B (l.flatMap ac)]) l (St.start W (fun a ha => by obtain rfl := List.mem_singleton.1 ha; exact hr) rfl) (by simp) hA n t many).mono fun _ _ ⟨h1, h2⟩ => ⟨h1, h2.below⟩
end Pa
end Go.Proofs.Ytplhelhijjmlaaa

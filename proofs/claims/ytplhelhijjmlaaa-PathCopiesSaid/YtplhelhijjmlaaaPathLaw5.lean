/- The law PathCopies, walked. -/
import Derived.Test.YtplhelhijjmlaaaPathAct
import Derived.Test.YtplhelhijjmlaaaPathIs
import Derived.Test.YtplhelhijjmlaaaOrd
set_option linter.unusedSimpArgs false
set_option linter.unusedVariables false
namespace Go.Proofs.Ytplhelhijjmlaaa
open Go Go.RowKit
namespace Se
theorem Reads.blkMid {L : List At} (k : Nat) {g : Nat} {t : TypeId} {xs ys : List Value} (h : L[k]? = some (.blk g t xs)) (j m : Nat) (hy : (xs.drop j).take m = ys) : Reads L (some ⟨g, j, none⟩) ys := by
  have := ((Reads.blk k h).at j).take m
  rwa [hy, Nat.zero_add] at this
end Se
namespace Pa
open Se (St At Reads Cell)
attribute [local irreducible] Calls
attribute [local go_sem] nf_eql
variable {w0 w : World} {X : List Nat} {L : List At}
abbrev two (a b : AA) : List Value := [.int .i64 a.what, .int .i64 a.i, .int .i64 a.g, .int .i64 a.s, .int .i64 a.b, .int .i64 a.t, .int .u8 a.st.ty, .int .u8 a.st.code, .bool a.st.more, .bool a.st.never, .int .i64 b.what, .int .i64 b.i, .int .i64 b.g, .int .i64 b.s, .int .i64 b.b, .int .i64 b.t, .int .u8 b.st.ty, .int .u8 b.st.code, .bool b.st.more, .bool b.st.never]
theorem rnew_yes' (hs : St w0 X L w) {n t : Int} {p : PP} (h : newP n t = some p) :
    Calls Try.prog 25 #[.int .i64 n, .int .i64 t] w fun e w' => ∃ A c, e = .returned (.tuple #[rv p A c, .int .i64 0]) ∧ St w0 X (.rd A (cells p.l) :: L) w' := by
  have := rnew_st hs n t
  rwa [h] at this
set_option maxRecDepth 100000 in
set_option maxHeartbeats 16000000 in
theorem copies_st {B : Option Addr} {cb : Nat} (l : List AA) (a1 a2 : AA) (hs : St w0 X L w) (hB : At.rd B (l.flatMap ac) ∈ L) (hA : ∀ a ∈ l, okSt a.st) (h1 : okSt a1.st) (h2 : okSt a2.st) (n : Int) :
    Calls Try.prog 7 #[.int .i64 n, .slice B l.length cb, .agg (two a1 a2).toArray] w fun e w' => e = .returned (.bool true) ∧ St w0 X L w' := by
  have HB := Lib.hid hB
  have HA := Lib.hid hA
  have K1 := Lib.hid h1
  have K2 := Lib.hid h2
  obtain ⟨m, hm⟩ : ∃ m, m = l.length := ⟨_, rfl⟩
  have HN := Lib.hid hm
  rw [← hm]
  clear hB hA hm h1 h2
  have key : (decide (n < 1) = false ∧ decide (32 < n) = false ∧ decide (30 < (m : Int)) = false) ∨ n < 1 ∨ (decide (n < 1) = false ∧ 32 < n) ∨ (decide (n < 1) = false ∧ decide (32 < n) = false ∧ 30 < (m : Int)) := by
    simp only [decide_eq_false_iff_not]; omega
  rcases key with ⟨T1, T2, T3⟩ | key
  · have B1 : 1 ≤ n ∧ n ≤ 32 := by simp only [decide_eq_false_iff_not] at T1 T2; omega
    have B2 : m ≤ 30 := by simp only [decide_eq_false_iff_not] at T3; omega
    obtain ⟨q0, hq⟩ : ∃ q, newP n 9 = some q := by rw [newP_eq, if_pos (by omega)]; exact ⟨_, rfl⟩
    have E2 := Lib.hid hq
    have E1 := Lib.hid (show newP1 n 9 = some (mapP q0) by rw [new_map, hq]; rfl)
    have HQ0 := Lib.hid (newP_ok hq)
    clear hq
    refine Se.enterM Try.func7 rfl ?_
    simp only [Try.ntmps7, List.size_toArray, List.length_cons, List.length_nil, Nat.reduceAdd, Nat.reduceSub, Array.replicate_succ, Array.replicate_zero, List.push_toArray, List.append_toArray, List.nil_append, List.cons_append]
    go_upto_region 5 with (first | ((with_reducible refine Se.isL (o := ⟨some 6, _, _, _, _, _⟩) ?_); (refine Se.toL rfl (Se.al (o := ⟨some 6, _, _, _, _, _⟩) hs rfl ((show _ = some [Value.bool false] from rfl)) ?_); clear hs; rintro w g6 - hs)) | ((with_reducible refine Se.isL (o := ⟨some 9, _, _, _, _, _⟩) ?_); (refine Se.toL rfl (Se.al (o := ⟨some 9, _, _, _, _, _⟩) hs rfl (rfl) ?_); clear hs; rintro w g9 - hs)) | ((with_reducible refine Se.isL (o := ⟨none, Op.store 59 _ _, _, _, _, _⟩) ?_); (refine Se.toL rfl (Se.sow 0 hs rfl rfl rfl rfl ((by simp [Value.oneCell'])) ((by kernel_rfl)) (rfl) ?_); clear hs; intro w hs; try simp only [List.set_cons_zero] at hs)) | ((first | with_reducible refine Se.ab hs ?_ | with_reducible refine Se.abc hs ?_); clear hs; (first | (generalize w.heap.size = g5; intro w hs))) | (go_at_call 12; refine Calls.mono (new_yes hs E1.out) ?_; clear hs; rintro e w ⟨D, gg, rfl, hs⟩) | (go_at_call 25; refine Calls.mono (rnew_yes' hs E2.out) ?_; clear hs; rintro e w ⟨A, c, rfl, hs⟩))
    clear T1 T2 T3
    go_wp2_with fail
    go_loopg [7, 11] m (fun gh s7 s11 wr => ∃ (i D g off c1 : Nat) (A : Option Addr) (c : Nat) (q : PP), gh = m - i ∧ i ≤ m ∧ s7 = .pointer (some ⟨D, 0, none⟩) ∧ s11 = .int .i64 i ∧ Hid (OkP q ∧ (q.l.length : Int) = n) ∧ St w0 X (pD D (some ⟨g, off, none⟩) c1 (mapP q) :: pG g off c1 (mapP q) :: .rd A (cells q.l) :: .blk g9 59 [.int .i64 q.tries, .slice A q.l.length c] :: .blk g6 4 [.bool false] :: .blk g5 66 (two a1 a2) :: L) wr)
    case atStart => exact ⟨0, D, gg, 0, _, A, c, q0, rfl, by omega, rfl, rfl, HQ0, hs.u11.u22⟩
    case round =>
      clear hs HQ0 E1 E2
      rename World => w
      obtain ⟨i, D, g, off, c1, A, c, q, rfl, hi, rfl, rfl, HQ, hs⟩ := hrel
      by_cases hlt : i < m
      · have hlt' : (i : Int) < (m : Int) := by omega
        have hil : i < l.length := by have := HN.out; omega
        have hne : l.flatMap ac ≠ [] := by
          intro h
          have h2 := flat_get (f := ac) (k := 10) l i 0 hil (by omega) (fun _ _ => rfl)
          rw [h] at h2
          simp at h2
        obtain ⟨gb, ob, rfl⟩ := hs.rd_at (List.mem_cons_of_mem _ (List.mem_cons_of_mem _ (List.mem_cons_of_mem _ (List.mem_cons_of_mem _ (List.mem_cons_of_mem _ (List.mem_cons_of_mem _ HB.out)))))) hne
        have HE := Lib.hid (show ∀ L' : List At, At.rd (some ⟨gb, ob, none⟩) (l.flatMap ac) ∈ L' → Reads L' (some ⟨gb, ob + i * 10, none⟩) (ac l[i]) from fun L' h => Se.Reads.elem (f := ac) (k := 10) (fun _ _ => rfl) (Reads.rdm h) hil)
        have HAA := Lib.hid (HA.out l[i] (List.getElem_mem hil))
        obtain ⟨a, ha⟩ : ∃ a, a = l[i] := ⟨_, rfl⟩
        rw [← ha] at HE HAA
        obtain ⟨q', hq'⟩ : ∃ q', actP q a = q' := ⟨_, rfl⟩
        have HQ1 := Lib.hid hq'
        have HQ' := Lib.hid (show OkP q' ∧ (q'.l.length : Int) = n by rw [← hq', actP_len]; exact ⟨actP_ok HQ.out.1 a, HQ.out.2⟩)
        have hw := IntWalk.i64_in ((i : Int) + 1) (by omega)
        clear hne ha hq' hil
        go_upto_region 8 with (fail)
        refine Ch.region' 13 (fun wx => Li.Rd wx (some ⟨gb, ob + i * 10, none⟩) (ac a)) (fun | 1 => true | 6 => true | 12 => true | _ => false) (by kernel_rfl) (by decide +kernel) (HE.out _ (by simp only [List.mem_cons, HB.out, or_true]) _ hs.drew.hold) ?_
        replace hs := hs.drew
        generalize w.drew = w at hs ⊢
        change Ch.CW _ _ _ _ _ [0, 1, 2, 3, 4, 5, 6, 7, 8, 9, 10, 11, 12] _ _
        iterate 1 (refine Ch.pure (v := ?_) (by rfl) (by rfl) (by rfl) (fun wx hS => ?_) ?_; rotate_left; (focus (go_simp; (first | done | with_reducible rfl))); (try simp only [Act.put, List.setIfInBounds_toArray, List.set_cons_zero, List.set_cons_succ]))
        refine Ch.noise (by rfl) (by rfl) (by rfl) (Se.ldw hs rfl rfl (Reads.blk 3 rfl) (by kernel_rfl) (by kernel_rfl) ?_)
        refine ⟨HE.out _ (by simp only [List.mem_cons, HB.out, or_true]) _ hs.hold, ?_⟩
        (try simp only [Act.put, List.setIfInBounds_toArray, List.set_cons_zero, List.set_cons_succ])
        iterate 4 ((first | (refine Ch.pure (v := ?_) (by rfl) (by rfl) (by rfl) (fun wx hS => ?_) ?_; rotate_left; (focus (go_simp; (first | done | with_reducible rfl)))) | refine Ch.pure (v := _) (by rfl) (by rfl) (by rfl) (fun wx hS => Se.xla rfl rfl hS (by kernel_rfl) (by kernel_rfl)) ?_); (try simp only [Act.put, List.setIfInBounds_toArray, List.set_cons_zero, List.set_cons_succ]))
        refine Ch.noise (by rfl) (by rfl) (by rfl) ?_
        refine Se.gcall (f := 26) (args := #[.pointer (some ⟨D, 0, none⟩), rv q A c, av a]) ?_ ?_
        · go_simp
        refine Calls.mono (act_st' hs List.mem_cons_self HQ.out.1 a HAA.out HQ1.out) ?_
        clear hs
        rintro e w ⟨D', g', off', c1', A', c', rfl, hs⟩
        refine ⟨_, rfl, HE.out _ (by simp only [List.mem_cons, HB.out, or_true]) _ hs.hold, ?_⟩
        (try simp only [Act.put, List.setIfInBounds_toArray, List.set_cons_zero, List.set_cons_succ])
        iterate 5 (refine Ch.pure (v := ?_) (by rfl) (by rfl) (by rfl) (fun wx hS => ?_) ?_; rotate_left; (focus (go_simp; (first | done | with_reducible rfl))); (try simp only [Act.put, List.setIfInBounds_toArray, List.set_cons_zero, List.set_cons_succ]))
        refine Ch.noise (by rfl) (by rfl) (by rfl) (Se.sow 4 (vs := [.int .i64 q'.tries, .slice A' q'.l.length c']) hs rfl rfl rfl rfl (by simp [Value.oneCell']) (by kernel_rfl) rfl ?_)
        clear hs
        intro w hs
        simp only [List.set_cons_zero, List.set_cons_succ] at hs
        refine ⟨HE.out _ (by simp only [List.mem_cons, HB.out, or_true]) _ hs.hold, ?_⟩
        (try simp only [Act.put, List.setIfInBounds_toArray, List.set_cons_zero, List.set_cons_succ])
        refine Ch.done ?_
        simp only [List.drop_succ_cons, List.drop_zero]
        go_wp2_with fail
        go_roundg (m - (i + 1))
        case measure => omega
        case rel => exact ⟨i + 1, D', g', off', c1', A', c', q', rfl, by omega, rfl, by go_num, HQ', hs.sub (by repeat (first | exact List.Sublist.refl _ | refine List.Sublist.cons_cons _ ?_ | refine List.Sublist.cons _ ?_))⟩
      · obtain rfl : i = m := by omega
        have HQm := Lib.hid HQ.out.1.map
        go_upto_region 9 with (fail)
        go_cut [12, 13, 14] from 61 to 65 (fun s12 s13 s14 wx => ∃ (D1 g1 off1 c2 b g14 : Nat) (M : List At), s12 = .pointer (some ⟨D1, 0, none⟩) ∧ s13 = .func (.func 44) #[] #[.pointer (some ⟨b, 0, none⟩)] ∧ s14 = .pointer (some ⟨g14, 0, none⟩) ∧ Hid (Se.SeqSt Try.prog 44 #[.pointer (some ⟨b, 0, none⟩)] (enc2 fun i => (mapP q).l.getD i dead) (List.range (mapP q).l.length) (fun _ => M) M) ∧ St w0 X (pD D (some ⟨g, off, none⟩) c1 (mapP q) :: pG g off c1 (mapP q) :: pD D1 (some ⟨g1, off1, none⟩) c2 (mapP q) :: pG g1 off1 c2 (mapP q) :: .rd A (cells q.l) :: .blk g14 59 [.int .i64 q.tries, .slice A q.l.length c] :: .blk g9 59 [.int .i64 q.tries, .slice A q.l.length c] :: .blk g6 4 [.bool false] :: .blk g5 66 (two a1 a2) :: (M ++ L)) wx)
        case first =>
          refine Or.region 9 (fun wx => Li.Blk wx g9 [.int .i64 q.tries, .slice A q.l.length c] 59) (fun | 1 => true | 3 => true | 5 => true | 8 => true | _ => false) (by kernel_rfl) (by decide +kernel) (hs.drew.hold (.blk g9 59 [.int .i64 q.tries, .slice A q.l.length c]) (by simp)) ?_
          replace hs := hs.drew
          generalize w.drew = w at hs ⊢
          change Or.AW _ _ _ _ _ 9 [0, 1, 2, 3, 4, 5, 6, 7, 8] _ _
          refine Or.pure 0 (v := ?_) (by rfl) (by decide +kernel) (by rfl) (by rfl) (by rfl) (fun wx hS => ?_) ?_; rotate_left; (focus (go_simp; (first | done | with_reducible rfl)))
          (try simp only [Act.put, List.setIfInBounds_toArray, List.set_cons_zero, List.set_cons_succ])
          change Or.AW _ _ _ _ _ 8 [1, 2, 3, 4, 5, 6, 7, 8] _ _
          refine Or.pure 2 (v := ?_) (by rfl) (by decide +kernel) (by rfl) (by rfl) (by rfl) (fun wx hS => ?_) ?_; rotate_left; (focus (go_simp; (first | done | with_reducible rfl)))
          (try simp only [Act.put, List.setIfInBounds_toArray, List.set_cons_zero, List.set_cons_succ])
          change Or.AW _ _ _ _ _ 7 [1, 3, 4, 5, 6, 7, 8] _ _
          refine Or.pure 4 (v := rv q A c) (by rfl) (by decide +kernel) (by rfl) (by rfl) (by rfl) (fun wx hS => Se.xla rfl rfl (Li.Rd.of_blk hS) (by kernel_rfl) (by kernel_rfl)) ?_
          (try simp only [Act.put, List.setIfInBounds_toArray, List.set_cons_zero, List.set_cons_succ])
          change Or.AW _ _ _ _ _ 6 [1, 3, 5, 6, 7, 8] _ _
          refine Or.two 1 5 (by decide +kernel) (by decide +kernel) (by rfl) (by rfl) (by rfl) (by rfl) ?_ ?_
          · skip
            refine Se.gcall (f := 28) (args := #[.pointer (some ⟨D, 0, none⟩)]) ?_ ?_
            · go_simp
            refine Calls.mono (copy_st hs HQm.out) ?_
            clear hs
            rintro e w ⟨D1, g1, off1, c2, rfl, hs⟩
            refine ⟨_, rfl, hs.hold (.blk g9 59 [.int .i64 q.tries, .slice A q.l.length c]) (by simp), ?_⟩
            (try simp only [Act.put, List.setIfInBounds_toArray, List.set_cons_zero, List.set_cons_succ])
            change Or.AW _ _ _ _ _ 5 [3, 5, 6, 7, 8] _ _
            refine Or.two 3 5 (by decide +kernel) (by decide +kernel) (by rfl) (by rfl) (by rfl) (by rfl) ?_ ?_
            · skip
              refine Se.gcall (f := 23) (args := #[.pointer (some ⟨D, 0, none⟩)]) ?_ ?_
              · go_simp
              refine Calls.mono (each_ok HQm.out [_, _] w hs) ?_
              clear hs
              rintro e w ⟨b, M, rfl, HSeq, hs⟩
              refine ⟨_, rfl, hs.hold (.blk g9 59 [.int .i64 q.tries, .slice A q.l.length c]) (by simp), ?_⟩
              (try simp only [Act.put, List.setIfInBounds_toArray, List.set_cons_zero, List.set_cons_succ])
              change Or.AW _ _ _ _ _ 4 [5, 6, 7, 8] _ _
              replace hs := hs.perm (L' := [_, _, _, _, _, _, _, _] ++ (M ++ L)) (List.perm_append_comm_assoc M [_, _, _, _, _, _, _, _] L)
              simp only [List.cons_append, List.nil_append] at hs
              refine Or.one 5 (by decide +kernel) (by decide +kernel) (by rfl) (by rfl) ?_
              refine Se.al hs rfl rfl ?_
              clear hs
              rintro w g14 - hs
              refine ⟨hs.hold (.blk g9 59 [.int .i64 q.tries, .slice A q.l.length c]) (by simp), ?_⟩
              (try simp only [Act.put, List.setIfInBounds_toArray, List.set_cons_zero, List.set_cons_succ])
              change Or.AW _ _ _ _ _ 3 [6, 7, 8] _ _
              refine Or.pure 6 (v := ?_) (by rfl) (by decide +kernel) (by rfl) (by rfl) (by rfl) (fun wx hS => ?_) ?_; rotate_left; (focus (go_simp; (first | done | with_reducible rfl)))
              (try simp only [Act.put, List.setIfInBounds_toArray, List.set_cons_zero, List.set_cons_succ])
              change Or.AW _ _ _ _ _ 2 [7, 8] _ _
              refine Or.pure 7 (v := ?_) (by rfl) (by decide +kernel) (by rfl) (by rfl) (by rfl) (fun wx hS => ?_) ?_; rotate_left; (focus (go_simp; (first | done | with_reducible rfl)))
              (try simp only [Act.put, List.setIfInBounds_toArray, List.set_cons_zero, List.set_cons_succ])
              change Or.AW _ _ _ _ _ 1 [8] _ _
              refine Or.one 8 (by decide +kernel) (by decide +kernel) (by rfl) (by rfl) ?_
              refine Se.sow 0 (vs := [.int .i64 q.tries, .slice A q.l.length c]) hs rfl rfl rfl rfl (by simp [Value.oneCell']) (by kernel_rfl) rfl ?_
              clear hs
              intro w hs
              simp only [List.set_cons_zero, List.set_cons_succ] at hs
              refine ⟨hs.hold (.blk g9 59 [.int .i64 q.tries, .slice A q.l.length c]) (by simp), ?_⟩
              (try simp only [Act.put])
              change Or.AW _ _ _ _ _ 0 [] _ _
              refine Or.done ?_
              simp only [List.drop_succ_cons, List.drop_zero]
              go_wp2_with fail
              go_meet
              replace hs := hs.pull 8 rfl
              replace hs := hs.pull 8 rfl
              replace hs := hs.pull 8 rfl
              replace hs := hs.pull 3 rfl
              replace hs := hs.pull 8 rfl
              replace hs := hs.pull 6 rfl
              replace hs := hs.pull 6 rfl
              replace hs := hs.pull 8 rfl
              replace hs := hs.pull 8 rfl
              simp only [List.eraseIdx_cons_succ, List.eraseIdx_cons_zero] at hs
              exact ⟨D1, g1, off1, c2, b, g14, M, rfl, rfl, rfl, Lib.hid HSeq, hs⟩
            · skip
              refine Se.al hs rfl rfl ?_
              clear hs
              rintro w g14 - hs
              refine ⟨hs.hold (.blk g9 59 [.int .i64 q.tries, .slice A q.l.length c]) (by simp), ?_⟩
              (try simp only [Act.put, List.setIfInBounds_toArray, List.set_cons_zero, List.set_cons_succ])
              change Or.AW _ _ _ _ _ 4 [3, 6, 7, 8] _ _
              refine Or.one 3 (by decide +kernel) (by decide +kernel) (by rfl) (by rfl) ?_
              refine Se.gcall (f := 23) (args := #[.pointer (some ⟨D, 0, none⟩)]) ?_ ?_
              · go_simp
              refine Calls.mono (each_ok HQm.out [_, _, _] w hs) ?_
              clear hs
              rintro e w ⟨b, M, rfl, HSeq, hs⟩
              refine ⟨_, rfl, hs.hold (.blk g9 59 [.int .i64 q.tries, .slice A q.l.length c]) (by simp), ?_⟩
              (try simp only [Act.put, List.setIfInBounds_toArray, List.set_cons_zero, List.set_cons_succ])
              change Or.AW _ _ _ _ _ 3 [6, 7, 8] _ _
              replace hs := hs.perm (L' := [_, _, _, _, _, _, _, _, _] ++ (M ++ L)) (List.perm_append_comm_assoc M [_, _, _, _, _, _, _, _, _] L)
              simp only [List.cons_append, List.nil_append] at hs
              refine Or.pure 6 (v := ?_) (by rfl) (by decide +kernel) (by rfl) (by rfl) (by rfl) (fun wx hS => ?_) ?_; rotate_left; (focus (go_simp; (first | done | with_reducible rfl)))
              (try simp only [Act.put, List.setIfInBounds_toArray, List.set_cons_zero, List.set_cons_succ])
              change Or.AW _ _ _ _ _ 2 [7, 8] _ _
              refine Or.pure 7 (v := ?_) (by rfl) (by decide +kernel) (by rfl) (by rfl) (by rfl) (fun wx hS => ?_) ?_; rotate_left; (focus (go_simp; (first | done | with_reducible rfl)))
              (try simp only [Act.put, List.setIfInBounds_toArray, List.set_cons_zero, List.set_cons_succ])
              change Or.AW _ _ _ _ _ 1 [8] _ _
              refine Or.one 8 (by decide +kernel) (by decide +kernel) (by rfl) (by rfl) ?_
              refine Se.sow 0 (vs := [.int .i64 q.tries, .slice A q.l.length c]) hs rfl rfl rfl rfl (by simp [Value.oneCell']) (by kernel_rfl) rfl ?_
              clear hs
              intro w hs
              simp only [List.set_cons_zero, List.set_cons_succ] at hs
              refine ⟨hs.hold (.blk g9 59 [.int .i64 q.tries, .slice A q.l.length c]) (by simp), ?_⟩
              (try simp only [Act.put])
              change Or.AW _ _ _ _ _ 0 [] _ _
              refine Or.done ?_
              simp only [List.drop_succ_cons, List.drop_zero]
              go_wp2_with fail
              go_meet
              replace hs := hs.pull 8 rfl
              replace hs := hs.pull 8 rfl
              replace hs := hs.pull 8 rfl
              replace hs := hs.pull 3 rfl
              replace hs := hs.pull 8 rfl
              replace hs := hs.pull 6 rfl
              replace hs := hs.pull 6 rfl
              replace hs := hs.pull 8 rfl
              replace hs := hs.pull 8 rfl
              simp only [List.eraseIdx_cons_succ, List.eraseIdx_cons_zero] at hs
              exact ⟨D1, g1, off1, c2, b, g14, M, rfl, rfl, rfl, Lib.hid HSeq, hs⟩
          · skip
            refine Se.al hs rfl rfl ?_
            clear hs
            rintro w g14 - hs
            refine ⟨hs.hold (.blk g9 59 [.int .i64 q.tries, .slice A q.l.length c]) (by simp), ?_⟩
            (try simp only [Act.put, List.setIfInBounds_toArray, List.set_cons_zero, List.set_cons_succ])
            change Or.AW _ _ _ _ _ 5 [1, 3, 6, 7, 8] _ _
            refine Or.one 1 (by decide +kernel) (by decide +kernel) (by rfl) (by rfl) ?_
            refine Se.gcall (f := 28) (args := #[.pointer (some ⟨D, 0, none⟩)]) ?_ ?_
            · go_simp
            refine Calls.mono (copy_st hs.u21 HQm.out) ?_
            clear hs
            rintro e w ⟨D1, g1, off1, c2, rfl, hs⟩
            refine ⟨_, rfl, hs.hold (.blk g9 59 [.int .i64 q.tries, .slice A q.l.length c]) (by simp), ?_⟩
            (try simp only [Act.put, List.setIfInBounds_toArray, List.set_cons_zero, List.set_cons_succ])
            change Or.AW _ _ _ _ _ 4 [3, 6, 7, 8] _ _
            refine Or.one 3 (by decide +kernel) (by decide +kernel) (by rfl) (by rfl) ?_
            refine Se.gcall (f := 23) (args := #[.pointer (some ⟨D, 0, none⟩)]) ?_ ?_
            · go_simp
            refine Calls.mono (each_ok HQm.out [_, _] w hs) ?_
            clear hs
            rintro e w ⟨b, M, rfl, HSeq, hs⟩
            refine ⟨_, rfl, hs.hold (.blk g9 59 [.int .i64 q.tries, .slice A q.l.length c]) (by simp), ?_⟩
            (try simp only [Act.put, List.setIfInBounds_toArray, List.set_cons_zero, List.set_cons_succ])
            change Or.AW _ _ _ _ _ 3 [6, 7, 8] _ _
            replace hs := hs.perm (L' := [_, _, _, _, _, _, _, _, _] ++ (M ++ L)) (List.perm_append_comm_assoc M [_, _, _, _, _, _, _, _, _] L)
            simp only [List.cons_append, List.nil_append] at hs
            refine Or.pure 6 (v := ?_) (by rfl) (by decide +kernel) (by rfl) (by rfl) (by rfl) (fun wx hS => ?_) ?_; rotate_left; (focus (go_simp; (first | done | with_reducible rfl)))
            (try simp only [Act.put, List.setIfInBounds_toArray, List.set_cons_zero, List.set_cons_succ])
            change Or.AW _ _ _ _ _ 2 [7, 8] _ _
            refine Or.pure 7 (v := ?_) (by rfl) (by decide +kernel) (by rfl) (by rfl) (by rfl) (fun wx hS => ?_) ?_; rotate_left; (focus (go_simp; (first | done | with_reducible rfl)))
            (try simp only [Act.put, List.setIfInBounds_toArray, List.set_cons_zero, List.set_cons_succ])
            change Or.AW _ _ _ _ _ 1 [8] _ _
            refine Or.one 8 (by decide +kernel) (by decide +kernel) (by rfl) (by rfl) ?_
            refine Se.sow 4 (vs := [.int .i64 q.tries, .slice A q.l.length c]) hs rfl rfl rfl rfl (by simp [Value.oneCell']) (by kernel_rfl) rfl ?_
            clear hs
            intro w hs
            simp only [List.set_cons_zero, List.set_cons_succ] at hs
            refine ⟨hs.hold (.blk g9 59 [.int .i64 q.tries, .slice A q.l.length c]) (by simp), ?_⟩
            (try simp only [Act.put])
            change Or.AW _ _ _ _ _ 0 [] _ _
            refine Or.done ?_
            simp only [List.drop_succ_cons, List.drop_zero]
            go_wp2_with fail
            go_meet
            replace hs := hs.pull 8 rfl
            replace hs := hs.pull 8 rfl
            replace hs := hs.pull 8 rfl
            replace hs := hs.pull 7 rfl
            replace hs := hs.pull 8 rfl
            replace hs := hs.pull 6 rfl
            replace hs := hs.pull 6 rfl
            replace hs := hs.pull 8 rfl
            replace hs := hs.pull 8 rfl
            simp only [List.eraseIdx_cons_succ, List.eraseIdx_cons_zero] at hs
            exact ⟨D1, g1, off1, c2, b, g14, M, rfl, rfl, rfl, Lib.hid HSeq, hs⟩
        case rest =>
        clear hs
        rename World => w
        obtain ⟨D1, g1, off1, c2, b, g14, M, rfl, rfl, rfl, HSeq, hs⟩ := hcut
        obtain ⟨q1, hq1⟩ : ∃ q1, actP q a1 = q1 := ⟨_, rfl⟩
        obtain ⟨q2, hq2⟩ : ∃ q2, actP q a2 = q2 := ⟨_, rfl⟩
        have W1 := Lib.hid hq1
        have W2 := Lib.hid hq2
        have HQ1 := Lib.hid (hq1 ▸ actP_ok HQ.out.1 a1)
        have HQ2 := Lib.hid (hq2 ▸ actP_ok HQ.out.1 a2)
        clear hq1 hq2
        go_upto_region 11 with (first | ((with_reducible refine Se.isL (o := ⟨some 68, _, _, _, _, _⟩) ?_); (refine Se.toL rfl (Se.ldw (o := ⟨some 68, _, _, _, _, _⟩) hs rfl rfl ((Reads.blk 6 rfl)) ((by kernel_rfl)) (by kernel_rfl) ?_))) | ((with_reducible refine Se.isL (o := ⟨some 70, _, _, _, _, _⟩) ?_); (refine Se.toL rfl (Se.ldw (o := ⟨some 70, _, _, _, _, _⟩) hs rfl rfl ((Reads.blkMid (ys := ac a1) 8 rfl 0 10 rfl)) ((by kernel_rfl)) (by kernel_rfl) ?_))) | ((with_reducible refine Se.isL (o := ⟨some 15, _, _, _, _, _⟩) ?_); (refine Se.toL rfl (Se.al (o := ⟨some 15, _, _, _, _, _⟩) hs rfl (rfl) ?_); clear hs; rintro w g15 - hs)) | ((with_reducible refine Se.isL (o := ⟨none, Op.store 59 _ _, _, _, _, _⟩) ?_); (refine Se.toL rfl (Se.sow 0 hs rfl rfl rfl rfl ((by simp [Value.oneCell'])) ((by kernel_rfl)) (rfl) ?_); clear hs; intro w hs; try simp only [List.set_cons_zero] at hs)) | (go_at_call 26; refine Calls.mono (act_st' hs (by simp) HQ.out.1 a1 K1.out W1.out) ?_; clear hs; rintro e w ⟨Da, ga, oa, ca, A1, c1', rfl, hs⟩))
        go_upto_region 12 with (first | ((with_reducible refine Se.isL (o := ⟨some 77, _, _, _, _, _⟩) ?_); (refine Se.toL rfl (Se.ldw (o := ⟨some 77, _, _, _, _, _⟩) hs rfl rfl ((Reads.blk 8 rfl)) ((by kernel_rfl)) (by kernel_rfl) ?_))) | ((with_reducible refine Se.isL (o := ⟨some 79, _, _, _, _, _⟩) ?_); (refine Se.toL rfl (Se.ldw (o := ⟨some 79, _, _, _, _, _⟩) hs rfl rfl ((Reads.blkMid (ys := ac a2) 10 rfl 10 10 rfl)) ((by kernel_rfl)) (by kernel_rfl) ?_))) | ((with_reducible refine Se.isL (o := ⟨some 17, _, _, _, _, _⟩) ?_); (refine Se.toL rfl (Se.al (o := ⟨some 17, _, _, _, _, _⟩) hs rfl (rfl) ?_); clear hs; rintro w g17 - hs)) | ((with_reducible refine Se.isL (o := ⟨none, Op.store 59 _ _, _, _, _, _⟩) ?_); (refine Se.toL rfl (Se.sow 0 hs rfl rfl rfl rfl ((by simp [Value.oneCell'])) ((by kernel_rfl)) (rfl) ?_); clear hs; intro w hs; try simp only [List.set_cons_zero] at hs)) | (go_at_call 26; refine Calls.mono (act_st' hs.u24 (by simp) HQ.out.1 a2 K2.out W2.out) ?_; clear hs; rintro e w ⟨Db, gb, ob, cb1, A2, c2', rfl, hs⟩))
        go_upto_region 14 with (first | ((with_reducible refine Se.isL (o := ⟨some 101, _, _, _, _, _⟩) ?_); (refine Se.toL rfl (Se.ldw (o := ⟨some 101, _, _, _, _, _⟩) hs rfl rfl ((Reads.blk 4 rfl)) ((by kernel_rfl)) (by kernel_rfl) ?_))) | ((with_reducible refine Se.isL (o := ⟨some 104, _, _, _, _, _⟩) ?_); (refine Se.toL rfl (Se.ld (o := ⟨some 104, _, _, _, _, _⟩) hs rfl rfl (Cell.blk 12 rfl rfl) (by kernel_rfl) ?_))) | ((with_reducible refine Se.isL (o := ⟨some 107, _, _, _, _, _⟩) ?_); (refine Se.toL rfl (Se.ld (o := ⟨some 107, _, _, _, _, _⟩) hs rfl rfl (Cell.blk 12 rfl rfl) (by kernel_rfl) ?_))) | ((with_reducible refine Se.isL (o := ⟨some 113, _, _, _, _, _⟩) ?_); (refine Se.toL rfl (Se.ldw (o := ⟨some 113, _, _, _, _, _⟩) hs rfl rfl ((Reads.blk 2 rfl)) ((by kernel_rfl)) (by kernel_rfl) ?_))) | ((with_reducible refine Se.isL (o := ⟨some 116, _, _, _, _, _⟩) ?_); (refine Se.toL rfl (Se.ld (o := ⟨some 116, _, _, _, _, _⟩) hs rfl rfl (Cell.blk 12 rfl rfl) (by kernel_rfl) ?_))) | ((with_reducible refine Se.isL (o := ⟨some 119, _, _, _, _, _⟩) ?_); (refine Se.toL rfl (Se.ld (o := ⟨some 119, _, _, _, _, _⟩) hs rfl rfl (Cell.blk 12 rfl rfl) (by kernel_rfl) ?_))) | (go_at_call 13; refine Calls.mono (num_st hs _) ?_; clear hs; rintro e w ⟨rfl, hs⟩) | (go_at_call 27; refine Calls.mono (is_st hs.u25 (by simp) HQ1.out a2.i a2.g 99) ?_; clear hs; rintro e w ⟨rfl, hs⟩) | (go_at_call 27; refine Calls.mono (is_st hs.u23 (by simp) HQ2.out a1.i a1.g 99) ?_; clear hs; rintro e w ⟨rfl, hs⟩))
        go_wp2_with (first | ((with_reducible refine Se.isL (o := ⟨some 19, _, _, _, _, _⟩) ?_); (refine Se.toL rfl (Se.al (o := ⟨some 19, _, _, _, _, _⟩) hs rfl ((show _ = some [Value.int .i64 0] from rfl)) ?_); clear hs; rintro w g19 - hs)) | ((with_reducible refine Se.isL (o := ⟨none, Op.store 3 _ _, _, _, _, _⟩) ?_); ((first | refine Se.toL rfl (Se.so 0 (v := .int _ _) hs rfl rfl rfl rfl rfl (by kernel_rfl) (by simp) ?_) | refine Se.toL rfl (Se.so 0 (v := .bool _) hs rfl rfl rfl rfl rfl (by kernel_rfl) (by simp) ?_) | refine Se.toL rfl (Se.so 0 (v := .slice _ _ _) hs rfl rfl rfl rfl rfl (by kernel_rfl) (by simp) ?_) | refine Se.toL rfl (Se.so 0 (v := .pointer _) hs rfl rfl rfl rfl rfl (by kernel_rfl) (by simp) ?_) | refine Se.toL rfl (Se.so 0 (v := .string _) hs rfl rfl rfl rfl rfl (by kernel_rfl) (by simp) ?_) | refine Se.toL rfl (Se.so 0 (v := .map _) hs rfl rfl rfl rfl rfl (by kernel_rfl) (by simp) ?_) | refine Se.toL rfl (Se.so 0 (v := .func _ _ _) hs rfl rfl rfl rfl rfl (by kernel_rfl) (by simp) ?_) | refine Se.toL rfl (Se.so 0 (v := .nilFunc) hs rfl rfl rfl rfl rfl (by kernel_rfl) (by simp) ?_)); clear hs; intro w hs; try simp only [List.set_cons_zero] at hs)))
        obtain ⟨N, hN⟩ : ∃ N, N = (mapP q).l.length := ⟨_, rfl⟩
        have hqn : q.l.length = N := by rw [hN, mapP_len]
        have HQN := Lib.hid hqn
        have hN1 : N ≤ 32 := by rw [← hqn]; exact HQ.out.1.n2
        have hNn := Lib.hid (show (N : Int) = n by rw [← hqn]; exact HQ.out.2)
        rw [← hN] at HSeq
        have HF := Lib.hid (show ∀ i, i < N → ((mapP q).l.getD i dead).on = (q.l.getD i dead).on ∧ ((mapP q).l.getD i dead).b = (q.l.getD i dead).b by
          intro i hi
          rw [show (mapP q).l = q.l.map h1 from rfl, getD_map q.l (by omega)]
          exact ⟨rfl, rfl⟩)
        obtain ⟨g0, o0, rfl⟩ := rd_some (A := A) (p := q) hs (by simp) HQ.out.1
        obtain ⟨f, hf0⟩ : ∃ f : Nat → PS, f = fun i => (mapP q).l.getD i dead := ⟨_, rfl⟩
        rw [← hf0] at HSeq
        have HF : Hid (∀ i, i < N → (f i).on = (q.l.getD i dead).on ∧ (f i).b = (q.l.getD i dead).b) := Lib.hid (by rw [hf0]; exact HF.out)
        clear hN hqn hf0
        have hs : St w0 X ([.blk g19 3 [.int .i64 ((0 : Nat) : Int)], pD Db (some ⟨gb, ob, none⟩) cb1 (mapP q2), pG gb ob cb1 (mapP q2), pD Da (some ⟨ga, oa, none⟩) ca (mapP q1), pG ga oa ca (mapP q1), .blk g17 59 [.int .i64 q2.tries, .slice A2 q2.l.length c2'], .rd A2 (cells q2.l), .blk g15 59 [.int .i64 q1.tries, .slice A1 q1.l.length c1'], .rd A1 (cells q1.l), .rd (some ⟨g0, o0, none⟩) (cells q.l), .blk g14 59 [.int .i64 q.tries, .slice (some ⟨g0, o0, none⟩) q.l.length c], .blk g9 59 [.int .i64 q.tries, .slice (some ⟨g0, o0, none⟩) q.l.length c], .blk g6 4 [.bool false], .blk g5 66 (two a1 a2)] ++ (M ++ L)) w := hs
        refine Se.rangeSt (L := [.blk g19 3 [.int .i64 ((0 : Nat) : Int)], pD Db (some ⟨gb, ob, none⟩) cb1 (mapP q2), pG gb ob cb1 (mapP q2), pD Da (some ⟨ga, oa, none⟩) ca (mapP q1), pG ga oa ca (mapP q1), .blk g17 59 [.int .i64 q2.tries, .slice A2 q2.l.length c2'], .rd A2 (cells q2.l), .blk g15 59 [.int .i64 q1.tries, .slice A1 q1.l.length c1'], .rd A1 (cells q1.l), .rd (some ⟨g0, o0, none⟩) (cells q.l), .blk g14 59 [.int .i64 q.tries, .slice (some ⟨g0, o0, none⟩) q.l.length c], .blk g9 59 [.int .i64 q.tries, .slice (some ⟨g0, o0, none⟩) q.l.length c], .blk g6 4 [.bool false], .blk g5 66 (two a1 a2)]) (M := fun _ => M) (Lr := L) (lb := #[.pointer (some ⟨b, 0, none⟩)]) hs rfl (Go.Proofs.enters_of Try.func44 (by kernel_rfl) rfl) HSeq.out (fun _ => rfl)
          (fun k Lb => Lb = [.blk g19 3 [.int .i64 (k : Int)], pD Db (some ⟨gb, ob, none⟩) cb1 (mapP q2), pG gb ob cb1 (mapP q2), pD Da (some ⟨ga, oa, none⟩) ca (mapP q1), pG ga oa ca (mapP q1), .blk g17 59 [.int .i64 q2.tries, .slice A2 q2.l.length c2'], .rd A2 (cells q2.l), .blk g15 59 [.int .i64 q1.tries, .slice A1 q1.l.length c1'], .rd A1 (cells q1.l), .rd (some ⟨g0, o0, none⟩) (cells q.l), .blk g14 59 [.int .i64 q.tries, .slice (some ⟨g0, o0, none⟩) q.l.length c], .blk g9 59 [.int .i64 q.tries, .slice (some ⟨g0, o0, none⟩) q.l.length c], .blk g6 4 [.bool false], .blk g5 66 (two a1 a2)]) (fun _ _ _ => False) rfl ?_ ?_ ?_
        · rintro l k x Lb w T hx rfl hs
          obtain ⟨hkn, rfl⟩ : k < N ∧ k = x := by
            have h1 := (List.getElem?_eq_some_iff.1 hx)
            obtain ⟨h1, h2⟩ := h1
            rw [List.length_range] at h1
            rw [List.getElem_range] at h2
            exact ⟨h1, h2⟩
          obtain ⟨x0, hx0⟩ : ∃ x0, x0 = f k := ⟨_, rfl⟩
          have hfk := HF.out k hkn
          rw [← hx0] at hfk
          rw [show enc2 f k = #[.int .i64 (k : Int), .agg #[.bool x0.on, .int .i64 x0.b]] by rw [hx0]; rfl]
          simp only [List.cons_append, List.nil_append] at hs
          rw [Se.zip2]
          simp only [List.setIfInBounds_toArray, List.set_cons_zero, List.set_cons_succ]
          repeat (first | refine wpIn_block ?_ | refine wpIn_seq ?_)
          refine Se.regI (by repeat (first | exact Se.roundSt_out | exact Se.falsePost_out | refine Se.then_out ?_ | refine Se.block_out ?_)) (by rfl) ?_
          go_wp2_with fail
          (try simp only [Exit.then])
          repeat (first | refine wpIn_block ?_ | refine wpIn_seq ?_)
          refine Se.regI (by repeat (first | exact Se.roundSt_out | exact Se.falsePost_out | refine Se.then_out ?_ | refine Se.block_out ?_)) (by rfl) ?_
          go_wp2_with (first | ((with_reducible refine Se.isL (o := ⟨some 21, _, _, _, _, _⟩) ?_); (refine Se.toL rfl (Se.al (o := ⟨some 21, _, _, _, _, _⟩) hs rfl ((show _ = some [Value.bool false, Value.int .i64 0] from rfl)) ?_); clear hs; rintro w g21 - hs)) | ((with_reducible refine Se.isL (o := ⟨none, Op.store 53 _ _, _, _, _, _⟩) ?_); (refine Se.toL rfl (Se.sow 0 hs rfl rfl rfl rfl ((by simp [Value.oneCell'])) ((by kernel_rfl)) (rfl) ?_); clear hs; intro w hs; try simp only [List.set_cons_zero] at hs)))
          (try simp only [Exit.then])
          refine ⟨.blk g21 53 [.bool x0.on, .int .i64 x0.b] :: [.blk g19 3 [.int .i64 (k : Int)], pD Db (some ⟨gb, ob, none⟩) cb1 (mapP q2), pG gb ob cb1 (mapP q2), pD Da (some ⟨ga, oa, none⟩) ca (mapP q1), pG ga oa ca (mapP q1), .blk g17 59 [.int .i64 q2.tries, .slice A2 q2.l.length c2'], .rd A2 (cells q2.l), .blk g15 59 [.int .i64 q1.tries, .slice A1 q1.l.length c1'], .rd A1 (cells q1.l), .rd (some ⟨g0, o0, none⟩) (cells q.l), .blk g14 59 [.int .i64 q.tries, .slice (some ⟨g0, o0, none⟩) q.l.length c], .blk g9 59 [.int .i64 q.tries, .slice (some ⟨g0, o0, none⟩) q.l.length c], .blk g6 4 [.bool false], .blk g5 66 (two a1 a2)], hs, ?_⟩
          clear hs
          clear w T
          intro w T hs
          simp only [List.cons_append, List.nil_append] at hs
          have hkl : k < q.l.length := by have := HQN.out; omega
          have hkl' : (k : Int) < (q.l.length : Int) := by omega
          have hkd : decide ((q.l.length : Int) ≤ (k : Int)) = false := by simpa using hkl'
          have hkd2 : decide (q.l.length ≤ k) = false := by simpa using hkl
          have RP := fun (L' : List At) (h : At.rd (some ⟨g0, o0, none⟩) (cells q.l) ∈ L') => r_pathN HQ.out.1 hkl (Reads.rdm h)
          have CA := Lib.hid (fun (L' : List At) (h : At.rd (some ⟨g0, o0, none⟩) (cells q.l) ∈ L') => (RP L' h).cell 0 (v := .bool x0.on) (by rw [hfk.1]; rfl))
          have CB := Lib.hid (fun (L' : List At) (h : At.rd (some ⟨g0, o0, none⟩) (cells q.l) ∈ L') => (RP L' h).cell 1 (v := .int .i64 x0.b) (by rw [hfk.2]; rfl))
          clear hfk RP hx0 hx
          repeat (first | refine wpIn_block ?_ | refine wpIn_seq ?_)
          refine Se.chI 27 (fun wx => Li.Blk wx g21 [.bool x0.on, .int .i64 x0.b] 53 ∧ Li.Blk wx g19 [.int .i64 (k : Int)] 3 ∧ Li.Blk wx g14 [.int .i64 q.tries, .slice (some ⟨g0, o0, none⟩) q.l.length c] 59 ∧ wx.cell? ⟨g0, o0 + k * 131, none⟩ = some (.bool x0.on) ∧ wx.cell? ⟨g0, o0 + k * 131 + 1, none⟩ = some (.int .i64 x0.b)) (fun  | _ => false) (by repeat (first | exact Se.roundSt_out | exact Se.falsePost_out | refine Se.then_out ?_ | refine Se.block_out ?_)) (by rfl) (by kernel_rfl) (by decide +kernel) (⟨hs.drew.hold (.blk g21 53 [.bool x0.on, .int .i64 x0.b]) (by simp), hs.drew.hold (.blk g19 3 [.int .i64 (k : Int)]) (by simp), hs.drew.hold (.blk g14 59 [.int .i64 q.tries, .slice (some ⟨g0, o0, none⟩) q.l.length c]) (by simp), CA.out _ (by simp) _ hs.drew.hold, CB.out _ (by simp) _ hs.drew.hold⟩) ?_
          replace hs := hs.drew
          generalize w.drew = w at hs ⊢
          change Ch.CW _ _ _ _ _ [0, 1, 2, 3, 4, 5, 6, 7, 8, 9, 10, 11, 12, 13, 14, 15, 16, 17, 18, 19, 20, 21, 22, 23, 24, 25, 26] _ _
          iterate 27 ((first | (refine Ch.pure (v := ?_) (by rfl) (by rfl) (by rfl) (fun wx hS => ?_) ?_; rotate_left; (focus (go_simp; (first | done | with_reducible rfl)))) | refine Ch.pure (v := _) (by rfl) (by rfl) (by rfl) (fun wx hS => Se.xl rfl rfl (by rw [(hS.2.1).cell]; rfl) (by decide +kernel)) ?_ | refine Ch.pure (v := _) (by rfl) (by rfl) (by rfl) (fun wx hS => Se.xl rfl rfl (by rw [(hS.2.2.1).cell]; rfl) (by decide +kernel)) ?_ | refine Ch.pure (v := _) (by rfl) (by rfl) (by rfl) (fun wx hS => Se.xla rfl rfl (Li.Rd.of_blk (hS.1)) (by kernel_rfl) (by decide +kernel)) ?_ | refine Ch.pure (v := _) (by rfl) (by rfl) (by rfl) (fun wx hS => Se.xl rfl rfl hS.2.2.2.1 (by decide +kernel)) ?_ | refine Ch.pure (v := _) (by rfl) (by rfl) (by rfl) (fun wx hS => Se.xl rfl rfl hS.2.2.2.2 (by decide +kernel)) ?_); (try simp only [Act.put, List.setIfInBounds_toArray, List.set_cons_zero, List.set_cons_succ]))
          refine Ch.done ?_
          simp only [List.drop_succ_cons, List.drop_zero]
          change Code.wpIn (Se.WF (some l)) 0 Try.prog _ _ _ _
          refine wpIn_cond_false rfl (wpIn_skip ?_)
          have hs := hs.drop
          have hw := IntWalk.i64_in ((k : Int) + 1) (by omega)
          change Code.wpIn (Se.WF (some l)) 0 Try.prog _ _ _ _
          repeat (first | refine wpIn_block ?_ | refine wpIn_seq ?_)
          refine Se.regI (by repeat (first | exact Se.roundSt_out | exact Se.falsePost_out | refine Se.then_out ?_ | refine Se.block_out ?_)) (by rfl) ?_
          go_wp2_with (first | ((with_reducible refine Se.isL (o := ⟨some 153, _, _, _, _, _⟩) ?_); (refine Se.toL rfl (Se.ld (o := ⟨some 153, _, _, _, _, _⟩) hs rfl rfl (Cell.blk 0 rfl rfl) (by kernel_rfl) ?_))) | ((with_reducible refine Se.isL (o := ⟨none, Op.store 3 _ _, _, _, _, _⟩) ?_); ((first | refine Se.toL rfl (Se.so 0 (v := .int _ _) hs rfl rfl rfl rfl rfl (by kernel_rfl) (by simp) ?_) | refine Se.toL rfl (Se.so 0 (v := .bool _) hs rfl rfl rfl rfl rfl (by kernel_rfl) (by simp) ?_) | refine Se.toL rfl (Se.so 0 (v := .slice _ _ _) hs rfl rfl rfl rfl rfl (by kernel_rfl) (by simp) ?_) | refine Se.toL rfl (Se.so 0 (v := .pointer _) hs rfl rfl rfl rfl rfl (by kernel_rfl) (by simp) ?_) | refine Se.toL rfl (Se.so 0 (v := .string _) hs rfl rfl rfl rfl rfl (by kernel_rfl) (by simp) ?_) | refine Se.toL rfl (Se.so 0 (v := .map _) hs rfl rfl rfl rfl rfl (by kernel_rfl) (by simp) ?_) | refine Se.toL rfl (Se.so 0 (v := .func _ _ _) hs rfl rfl rfl rfl rfl (by kernel_rfl) (by simp) ?_) | refine Se.toL rfl (Se.so 0 (v := .nilFunc) hs rfl rfl rfl rfl rfl (by kernel_rfl) (by simp) ?_)); clear hs; intro w hs; try simp only [List.set_cons_zero] at hs)))
          (try simp only [Exit.then])
          have e : ((k + 1 : Nat) : Int) = (k : Int) + 1 := by omega
          exact ⟨_, rfl, by rw [e]; exact hs⟩
        · rintro Dd Lb w rfl hs
          rw [List.length_range] at hs
          have hNe : ((N : Int) == n) = true := by rw [hNn.out]; simp
          simp only [Exit.inBlock, Exit.then]
          go_at_K
          simp only [List.cons_append, List.nil_append] at hs
          go_wp2_with (first | ((with_reducible refine Se.isL (o := ⟨some 155, _, _, _, _, _⟩) ?_); (refine Se.toL rfl (Se.ld (o := ⟨some 155, _, _, _, _, _⟩) hs rfl rfl (Cell.blk 0 rfl rfl) (by kernel_rfl) ?_))) | ((with_reducible refine Se.isL (o := ⟨none, Op.store 4 _ _, _, _, _, _⟩) ?_); ((first | refine Se.toL rfl (Se.so 12 (v := .int _ _) hs rfl rfl rfl rfl rfl (by kernel_rfl) (by simp) ?_) | refine Se.toL rfl (Se.so 12 (v := .bool _) hs rfl rfl rfl rfl rfl (by kernel_rfl) (by simp) ?_) | refine Se.toL rfl (Se.so 12 (v := .slice _ _ _) hs rfl rfl rfl rfl rfl (by kernel_rfl) (by simp) ?_) | refine Se.toL rfl (Se.so 12 (v := .pointer _) hs rfl rfl rfl rfl rfl (by kernel_rfl) (by simp) ?_) | refine Se.toL rfl (Se.so 12 (v := .string _) hs rfl rfl rfl rfl rfl (by kernel_rfl) (by simp) ?_) | refine Se.toL rfl (Se.so 12 (v := .map _) hs rfl rfl rfl rfl rfl (by kernel_rfl) (by simp) ?_) | refine Se.toL rfl (Se.so 12 (v := .func _ _ _) hs rfl rfl rfl rfl rfl (by kernel_rfl) (by simp) ?_) | refine Se.toL rfl (Se.so 12 (v := .nilFunc) hs rfl rfl rfl rfl rfl (by kernel_rfl) (by simp) ?_)); clear hs; intro w hs; try simp only [List.set_cons_zero, List.set_cons_succ] at hs)) | (go_at_call 11; refine Calls.mono (works_st hs) ?_; clear hs; rintro e w ⟨rfl, hs⟩))
          refine Se.leave1 (Se.St.mid (Lb := [_, _, _, _, _, _, _, _, _, _, _, _, _, _]) hs) ?_
          clear hs
          intro w hs
          refine Se.leave0 (Se.results_cell1 hs rfl rfl (Cell.blk 12 rfl rfl) (by kernel_rfl)) ⟨rfl, ?_⟩
          exact (hs.drop.drop.drop.drop.drop.drop.drop.drop.drop.drop.drop.drop.drop.drop).sub (List.sublist_append_right _ _)
        · rintro Dd cd k Lb w hkn h
          exact h.elim
  · rcases key with h1 | ⟨h1, h2⟩ | ⟨h1, h2, h3⟩
    all_goals
      refine Se.enterM Try.func7 rfl ?_
      simp only [Try.ntmps7, List.size_toArray, List.length_cons, List.length_nil, Nat.reduceAdd, Nat.reduceSub, Array.replicate_succ, Array.replicate_zero, List.push_toArray, List.append_toArray, List.nil_append, List.cons_append]
      go_wp2_with (first | ((with_reducible refine Se.isL (o := ⟨some 6, _, _, _, _, _⟩) ?_); (refine Se.toL rfl (Se.al (o := ⟨some 6, _, _, _, _, _⟩) hs rfl ((show _ = some [Value.bool false] from rfl)) ?_); clear hs; rintro w g6 - hs)) | ((with_reducible refine Se.isL (o := ⟨none, Op.store 4 _ _, _, _, _, _⟩) ?_); ((first | refine Se.toL rfl (Se.so 0 (v := .int _ _) hs rfl rfl rfl rfl rfl (by kernel_rfl) (by simp) ?_) | refine Se.toL rfl (Se.so 0 (v := .bool _) hs rfl rfl rfl rfl rfl (by kernel_rfl) (by simp) ?_) | refine Se.toL rfl (Se.so 0 (v := .slice _ _ _) hs rfl rfl rfl rfl rfl (by kernel_rfl) (by simp) ?_) | refine Se.toL rfl (Se.so 0 (v := .pointer _) hs rfl rfl rfl rfl rfl (by kernel_rfl) (by simp) ?_) | refine Se.toL rfl (Se.so 0 (v := .string _) hs rfl rfl rfl rfl rfl (by kernel_rfl) (by simp) ?_) | refine Se.toL rfl (Se.so 0 (v := .map _) hs rfl rfl rfl rfl rfl (by kernel_rfl) (by simp) ?_) | refine Se.toL rfl (Se.so 0 (v := .func _ _ _) hs rfl rfl rfl rfl rfl (by kernel_rfl) (by simp) ?_) | refine Se.toL rfl (Se.so 0 (v := .nilFunc) hs rfl rfl rfl rfl rfl (by kernel_rfl) (by simp) ?_)); clear hs; intro w hs; try simp only [List.set_cons_zero] at hs)) | ((first | with_reducible refine Se.ab hs ?_ | with_reducible refine Se.abc hs ?_); clear hs; (first | (generalize w.heap.size = g5; intro w hs))) | (go_at_call 11; refine Calls.mono (works_st hs) ?_; clear hs; rintro e w ⟨rfl, hs⟩))
      refine Se.leave0 (Se.results_cell1 hs rfl rfl (Cell.blk 0 rfl rfl) (by kernel_rfl)) ⟨rfl, ?_⟩
      exact hs.drop.drop
theorem copies_any {W : World} {B : Option Addr} {m cb : Nat} {l : List AA} (n : Int) (a1 a2 : AA) (hm : m = l.length) (hr : Li.Rd W B (l.flatMap ac)) (hA : ∀ a ∈ l, okSt a.st) (h1 : okSt a1.st) (h2 : okSt a2.st) :
    Calls Try.prog 7 #[.int .i64 n, .slice B m cb, .agg (ac a1 ++ ac a2).toArray] W fun e w' => e = .returned (.bool true) ∧ Below W.heap.size W w' := by
  subst hm
  exact (copies_st (w0 := W) (X := []) (L := [.rd B (l.flatMap ac)]) l a1 a2 (St.start W (fun a ha => by obtain rfl := List.mem_singleton.1 ha; exact hr) rfl) (by simp) hA h1 h2 n).mono fun _ _ ⟨h1, h2⟩ => ⟨h1, h2.below⟩
end Pa
end Go.Proofs.Ytplhelhijjmlaaa

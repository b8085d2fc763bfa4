/- Layer 45: none and at. -/
import Derived.Test.YtplhelhijjmlaaaPathCells
import Derived.ScopeJumps
import Derived.WalkMore
namespace Go.Proofs.Ytplhelhijjmlaaa
open Go Go.RowKit
namespace Pa
open Se (St At Reads Cell)
variable {w0 w : World} {X : List Nat} {L : List At}
set_option maxRecDepth 100000 in
theorem none_st {D : Nat} {A : Option Addr} {c : Nat} {p : PP} (hs : St w0 X (pD D A c p :: L) w) (hp : OkP p) :
    Calls Try.prog 53 #[.pointer (some ⟨D, 0, none⟩)] w fun e w' => e = .returned (.bool false) ∧ St w0 X (pD D A c p :: L) w' := by
  have ht := hp.t1
  have HN := Lib.hid hp
  clear hp
  have h0 : (p.tries == 0) = false := by simp; omega
  go_enter Try.func53, Try.ntmps53
  go_wp2_with (first | ((with_reducible refine Se.isL (o := ⟨some 9, _, _, _, _, _⟩) ?_); (refine Se.toL rfl (Se.ld (o := ⟨some 9, _, _, _, _, _⟩) hs rfl rfl (Cell.blk 0 rfl rfl) (by kernel_rfl) ?_))))
  go_ret
  exact ⟨rfl, hs⟩
theorem bool_info : (Try.prog.info? 4).map (fun i => (i.zero, i.size)) = some (some (.bool false), 1) := by kernel_rfl
section
variable {a : Act} {Q : Exit → Act → World → Prop} {J : Act → World → Prop}
@[local go_sem] theorem jump_ret (l : Nat) : Exit.jump l J Q .ret a w = Q .ret a w := rfl
@[local go_sem] theorem jump_normal (l : Nat) : Exit.jump l J Q .normal a w = Q .normal a w := rfl
theorem jump_goto (l : Nat) (h : J a w) : Exit.jump l J Q (.goto l) a w := ⟨rfl, h⟩
end
set_option maxRecDepth 100000 in
set_option maxHeartbeats 1000000 in
theorem at_st {D g off : Nat} {c : Nat} {p : PP} (hs : St w0 X (pD D (some ⟨g, off, none⟩) c p :: pG g off c p :: L) w) (hp : OkP p) (i : Int) (v : Bool) :
    Calls Try.prog 34 #[.pointer (some ⟨D, 0, none⟩), .int .i64 i, .bool v] w fun e w' => e = .returned (.tuple #[.pointer (if at' p i v = 0 then some ⟨g, off + i.toNat * 131, none⟩ else none), .int .i64 (at' p i v)]) ∧ St w0 X (pD D (some ⟨g, off, none⟩) c p :: pG g off c p :: L) w' := by
  obtain ⟨n, hn⟩ : ∃ n, n = p.l.length := ⟨_, rfl⟩
  have hn2 := hp.n2
  rw [← hn] at hn2
  have HP := Lib.hid hp
  clear hp
  go_enter Try.func34, Try.ntmps34
  go_wp2
  refine wp_scope_jumps 0 (fun a wx => at' p i v ≠ 0 ∧ (∃ u3 u4 u5 u6 u8 u9 u10 u11 u12 u13 u14 u15 u16 u17 u18 u19 u20 u21 u22 u23 u24 u25 u26 u27 u28 u29 u30, a = { tmps := #[Value.pointer (some ⟨D, 0, none⟩), Value.int .i64 i, Value.bool v, u3, u4, u5, u6, Value.int .i64 (at' p i v), u8, u9, u10, u11, u12, u13, u14, u15, u16, u17, u18, u19, u20, u21, u22, u23, u24, u25, u26, u27, u28, u29, u30], defers := [] }) ∧ St w0 X (pD D (some ⟨g, off, none⟩) c p :: pG g off c p :: L) wx) (fun _ _ => 0) rfl ?_ ?_
  · cases v
    · skip
      go_wp2_with (first | (go_at_call 53; refine Calls.mono (none_st hs HP.out) ?_; clear hs; rintro e w ⟨rfl, hs⟩))
      go_step3
      refine And.intro rfl ?_
      refine ⟨by simp [at'], ?_, hs⟩
      exact ⟨_, _, _, _, _, _, _, _, _, _, _, _, _, _, _, _, _, _, _, _, _, _, _, _, _, _, _, rfl⟩
    · skip
      by_cases hr : rng p i = 0
      · obtain ⟨h0, h1⟩ : 0 ≤ i ∧ i < p.l.length := by
          unfold rng at hr
          split at hr
          · assumption
          · cases hr
        have HR := Lib.hid hr
        clear hr
        go_wp2_with (first | ((with_reducible refine Se.isL (o := ⟨some 18, _, _, _, _, _⟩) ?_); (refine Se.toL rfl (Se.ld (o := ⟨some 18, _, _, _, _, _⟩) hs rfl rfl (Cell.blk 0 rfl rfl) (by kernel_rfl) ?_))) | ((with_reducible refine Se.isL (o := ⟨some 27, _, _, _, _, _⟩) ?_); (refine Se.toL rfl (Se.ld (o := ⟨some 27, _, _, _, _, _⟩) hs rfl rfl (Cell.blk 1 rfl rfl) (by kernel_rfl) ?_))) | ((with_reducible refine Se.isL (o := ⟨some 21, _, _, _, _, _⟩) ?_); (refine Se.toL rfl (Se.bsv (o := ⟨some 21, _, _, _, _, _⟩) hs rfl Try.underlying112 bool_info rfl ([.bool true, .bool true]) (by rfl) (by rfl) (by decide) (by decide) (by simp [Value.oneCell']) ?_); clear hs; rintro w g21 - hs)) | (go_at_call 53; refine Calls.mono (none_st hs HP.out) ?_; clear hs; rintro e w ⟨rfl, hs⟩) | (go_at_call 32; refine Calls.mono (all_st hs [true, true] (Reads.blk 0 rfl) rfl (by decide)) ?_; clear hs; rintro e w ⟨rfl, hs⟩))
        rw [jump_ret]
        go_ret2
        have := HR.out
        exact ⟨by simp [at', this], hs.drop⟩
      · have h2 : (decide (0 ≤ i) = false ∧ i < p.l.length) ∨ (0 ≤ i ∧ decide (i < (p.l.length : Int)) = false) := by
          unfold rng at hr
          split at hr
          · exact absurd rfl hr
          · simp only [decide_eq_false_iff_not]; omega
        have HR := Lib.hid (show at' p i true = 3 by
          unfold at' rng at *
          simp only [if_true]
          split
          · exact absurd (if_pos ‹_›) hr
          · rfl)
        clear hr
        rcases h2 with ⟨h0, h1⟩ | ⟨h0, h1⟩
        · go_wp2_with (first | ((with_reducible refine Se.isL (o := ⟨some 18, _, _, _, _, _⟩) ?_); (refine Se.toL rfl (Se.ld (o := ⟨some 18, _, _, _, _, _⟩) hs rfl rfl (Cell.blk 0 rfl rfl) (by kernel_rfl) ?_))) | ((with_reducible refine Se.isL (o := ⟨some 21, _, _, _, _, _⟩) ?_); (refine Se.toL rfl (Se.bsv (o := ⟨some 21, _, _, _, _, _⟩) hs rfl Try.underlying112 bool_info rfl ([.bool false, .bool true]) (by rfl) (by rfl) (by decide) (by decide) (by simp [Value.oneCell']) ?_); clear hs; rintro w g21 - hs)) | (go_at_call 53; refine Calls.mono (none_st hs HP.out) ?_; clear hs; rintro e w ⟨rfl, hs⟩) | (go_at_call 32; refine Calls.mono (all_st hs [false, true] (Reads.blk 0 rfl) rfl (by decide)) ?_; clear hs; rintro e w ⟨rfl, hs⟩))
          go_step3
          refine And.intro rfl ?_
          refine ⟨by simp [HR.out], ?_, hs.drop⟩
          rw [HR.out]
          exact ⟨_, _, _, _, _, _, _, _, _, _, _, _, _, _, _, _, _, _, _, _, _, _, _, _, _, _, _, rfl⟩
        · go_wp2_with (first | ((with_reducible refine Se.isL (o := ⟨some 18, _, _, _, _, _⟩) ?_); (refine Se.toL rfl (Se.ld (o := ⟨some 18, _, _, _, _, _⟩) hs rfl rfl (Cell.blk 0 rfl rfl) (by kernel_rfl) ?_))) | ((with_reducible refine Se.isL (o := ⟨some 21, _, _, _, _, _⟩) ?_); (refine Se.toL rfl (Se.bsv (o := ⟨some 21, _, _, _, _, _⟩) hs rfl Try.underlying112 bool_info rfl ([.bool true, .bool false]) (by rfl) (by rfl) (by decide) (by decide) (by simp [Value.oneCell']) ?_); clear hs; rintro w g21 - hs)) | (go_at_call 53; refine Calls.mono (none_st hs HP.out) ?_; clear hs; rintro e w ⟨rfl, hs⟩) | (go_at_call 32; refine Calls.mono (all_st hs [true, false] (Reads.blk 0 rfl) rfl (by decide)) ?_; clear hs; rintro e w ⟨rfl, hs⟩))
          go_step3
          refine And.intro rfl ?_
          refine ⟨by simp [HR.out], ?_, hs.drop⟩
          rw [HR.out]
          exact ⟨_, _, _, _, _, _, _, _, _, _, _, _, _, _, _, _, _, _, _, _, _, _, _, _, _, _, _, rfl⟩
  · rintro a w ⟨h0, ⟨u3, u4, u5, u6, u8, u9, u10, u11, u12, u13, u14, u15, u16, u17, u18, u19, u20, u21, u22, u23, u24, u25, u26, u27, u28, u29, u30, rfl⟩, hs⟩
    go_wp2
    rw [jump_ret]
    go_ret2
    exact ⟨by simp [h0], hs⟩
theorem at_ok_st {D g off : Nat} {c : Nat} {p : PP} (hs : St w0 X (pD D (some ⟨g, off, none⟩) c p :: pG g off c p :: L) w) (hp : OkP p) (i : Int) (v : Bool) (h : at' p i v = 0) :
    Calls Try.prog 34 #[.pointer (some ⟨D, 0, none⟩), .int .i64 i, .bool v] w fun e w' => e = .returned (.tuple #[.pointer (some ⟨g, off + i.toNat * 131, none⟩), .int .i64 0]) ∧ St w0 X (pD D (some ⟨g, off, none⟩) c p :: pG g off c p :: L) w' :=
  (at_st hs hp i v).mono fun e w' ⟨h1, h2⟩ => ⟨by rw [h1, h]; rfl, h2⟩
theorem at_no_st {D g off : Nat} {c : Nat} {p : PP} (hs : St w0 X (pD D (some ⟨g, off, none⟩) c p :: pG g off c p :: L) w) (hp : OkP p) (i : Int) (v : Bool) (x : Int) (h : at' p i v = x) (h0 : x ≠ 0) :
    Calls Try.prog 34 #[.pointer (some ⟨D, 0, none⟩), .int .i64 i, .bool v] w fun e w' => e = .returned (.tuple #[.pointer none, .int .i64 x]) ∧ St w0 X (pD D (some ⟨g, off, none⟩) c p :: pG g off c p :: L) w' :=
  (at_st hs hp i v).mono fun e w' ⟨h1, h2⟩ => ⟨by rw [h1, h, if_neg h0], h2⟩
theorem all_v {A : Option Addr} {n c : Nat} (hs : St w0 X L w) (xs : List Bool) (V : Bool) (hr : Reads L A (xs.map Value.bool)) (hn : n = xs.length) (hle : n ≤ 1000) (hV : (!decide (false ∈ xs)) = V) :
    Calls Try.prog 32 #[.slice A n c] w fun e w' => e = .returned (.bool V) ∧ St w0 X L w' := hV ▸ all_st hs xs hr hn hle
end Pa
end Go.Proofs.Ytplhelhijjmlaaa

/- Layer 45: picks, routes and the examples of the chapter. Printed by wip/gen_works.py. -/
import Derived.Test.YtplhelhijjmlaaaPathMap
set_option linter.unusedSimpArgs false
set_option linter.unusedVariables false
namespace Go.Proofs.Ytplhelhijjmlaaa
open Go Go.RowKit
namespace Pa
open Se (St At Reads Cell)
variable {w0 w : World} {X : List Nat} {L : List At} {D g off c : Nat} {p : PP}
set_option maxRecDepth 100000 in
theorem picks_t (hs : St w0 X (pD D (some ⟨g, off, none⟩) c p :: pG g off c p :: L) w) (hp : OkP p) (gr : Int) {n y : Int} (hq : pick p gr = (n, y)) :
    Calls Try.prog 16 #[.pointer (some ⟨D, 0, none⟩), .int .i64 gr, .int .i64 n, .int .i64 y] w fun e w' => e = .returned (.bool true) ∧ St w0 X (pD D (some ⟨g, off, none⟩) c p :: pG g off c p :: L) w' := by
  have HP := Lib.hid hp
  have HQ := Lib.hid hq
  clear hp hq
  go_enter Try.func16, Try.ntmps16
  go_wp2_with (first | (go_at_call 21; refine Calls.mono (pick_st' hs HP.out gr HQ.out) ?_; clear hs; rintro e w ⟨rfl, hs⟩) | (go_at_call 13; refine Calls.mono (num_st hs y) ?_; clear hs; rintro e w ⟨rfl, hs⟩))
  go_ret
  exact ⟨rfl, hs⟩
theorem route_st' (hs : St w0 X (pD D (some ⟨g, off, none⟩) c p :: pG g off c p :: L) w) (hp : OkP p) (i gr : Int) (s : Sta) (tr : Int) {q : PP} {n a y : Int} (hq : route p i gr s tr = (q, n, a, y)) :
    Calls Try.prog 24 #[.pointer (some ⟨D, 0, none⟩), .int .i64 i, .int .i64 gr, stv s, .int .i64 tr] w fun e w' => e = .returned (.tuple #[.int .i64 n, .int .i64 a, .int .i64 y]) ∧ St w0 X (pD D (some ⟨g, off, none⟩) c q :: pG g off c q :: L) w' := by
  have := route_st hs hp i gr s tr
  rwa [hq] at this
set_option maxRecDepth 100000 in
theorem routes_t (hs : St w0 X (pD D (some ⟨g, off, none⟩) c p :: pG g off c p :: L) w) (hp : OkP p) (i gr : Int) (s : Sta) (tr : Int) {q : PP} {n a y : Int} (hq : route p i gr s tr = (q, n, a, y)) :
    Calls Try.prog 17 #[.pointer (some ⟨D, 0, none⟩), .int .i64 i, .int .i64 gr, stv s, .int .i64 tr, .int .i64 n, .int .i64 a, .int .i64 y] w fun e w' => e = .returned (.bool true) ∧ St w0 X (pD D (some ⟨g, off, none⟩) c q :: pG g off c q :: L) w' := by
  have HP := Lib.hid hp
  have HQ := Lib.hid hq
  clear hp hq
  obtain ⟨ty, code, more, never⟩ := s
  go_enter Try.func17, Try.ntmps17
  go_wp2_with (first | ((with_reducible refine Se.isL (o := ⟨some 24, _, _, _, _, _⟩) ?_); (refine Se.toL rfl (Se.ldw (o := ⟨some 24, _, _, _, _, _⟩) hs rfl rfl ((Reads.blk 0 rfl)) ((by kernel_rfl)) (by kernel_rfl) ?_))) | ((first | with_reducible refine Se.ab hs ?_ | with_reducible refine Se.abc hs ?_); clear hs; (first | (generalize w.heap.size = g11; intro w hs))) | (go_at_call 24; refine Calls.mono (route_st' hs.u21 HP.out i gr ⟨ty, code, more, never⟩ tr HQ.out) ?_; clear hs; rintro e w ⟨rfl, hs⟩) | (go_at_call 13; refine Calls.mono (num_st hs y) ?_; clear hs; rintro e w ⟨rfl, hs⟩))
  go_ret
  exact ⟨rfl, hs.u12.drop⟩
theorem submit_st' (hs : St w0 X (pD D (some ⟨g, off, none⟩) c p :: pG g off c p :: L) w) (hp : OkP p) (i n : Int) {q : PP} {y : Int} (hq : submit p i n = (q, y)) :
    Calls Try.prog 14 #[.pointer (some ⟨D, 0, none⟩), .int .i64 i, .int .i64 n] w fun e w' => e = .returned (.int .i64 y) ∧ St w0 X (pD D (some ⟨g, off, none⟩) c q :: pG g off c q :: L) w' := by
  have := submit_st hs hp i n
  rwa [hq] at this
theorem done_st' (hs : St w0 X (pD D (some ⟨g, off, none⟩) c p :: pG g off c p :: L) w) (hp : OkP p) (i n : Int) {q : PP} {y : Int} (hq : done p i n = (q, y)) :
    Calls Try.prog 18 #[.pointer (some ⟨D, 0, none⟩), .int .i64 i, .int .i64 n] w fun e w' => e = .returned (.int .i64 y) ∧ St w0 X (pD D (some ⟨g, off, none⟩) c q :: pG g off c q :: L) w' := by
  have := done_st hs hp i n
  rwa [hq] at this
theorem setState_st' (hs : St w0 X (pD D (some ⟨g, off, none⟩) c p :: pG g off c p :: L) w) (hp : OkP p) (i gr s : Int) {q : PP} {y : Int} (hq : setState p i gr s = (q, y)) :
    Calls Try.prog 15 #[.pointer (some ⟨D, 0, none⟩), .int .i64 i, .int .i64 gr, .int .i64 s] w fun e w' => e = .returned (.int .i64 y) ∧ St w0 X (pD D (some ⟨g, off, none⟩) c q :: pG g off c q :: L) w' := by
  have := setState_st hs hp i gr s
  rwa [hq] at this
theorem connect_st' (hs : St w0 X (pD D (some ⟨g, off, none⟩) c p :: pG g off c p :: L) w) (hp : OkP p) (i : Int) {q : PP} {n y : Int} (hq : turn p i true = (q, n, y)) :
    Calls Try.prog 19 #[.pointer (some ⟨D, 0, none⟩), .int .i64 i] w fun e w' => e = .returned (.int .i64 y) ∧ St w0 X (pD D (some ⟨g, off, none⟩) c q :: pG g off c q :: L) w' := by
  have := connect_st hs hp i
  rwa [hq] at this
theorem disconnect_st' (hs : St w0 X (pD D (some ⟨g, off, none⟩) c p :: pG g off c p :: L) w) (hp : OkP p) (i : Int) {q : PP} {n y : Int} (hq : turn p i false = (q, n, y)) :
    Calls Try.prog 20 #[.pointer (some ⟨D, 0, none⟩), .int .i64 i] w fun e w' => e = .returned (.tuple #[.int .i64 n, .int .i64 y]) ∧ St w0 X (pD D (some ⟨g, off, none⟩) c q :: pG g off c q :: L) w' := by
  have := disconnect_st hs hp i
  rwa [hq] at this
theorem state_st' (hs : St w0 X (pD D (some ⟨g, off, none⟩) c p :: pG g off c p :: L) w) (hp : OkP p) (i gr : Int) {n y : Int} (hq : state p i gr = (n, y)) :
    Calls Try.prog 22 #[.pointer (some ⟨D, 0, none⟩), .int .i64 i, .int .i64 gr] w fun e w' => e = .returned (.tuple #[.int .i64 n, .int .i64 y]) ∧ St w0 X (pD D (some ⟨g, off, none⟩) c p :: pG g off c p :: L) w' := by
  have := state_st hs hp i gr
  rwa [hq] at this
theorem newP1_ok {n t : Int} {p : PP} (h : newP1 n t = some p) : OkP p := by
  rw [new_map] at h
  cases hn : newP n t with
  | none => simp [hn] at h
  | some q => simp [hn] at h; rw [← h]; exact (newP_ok hn).1.map
theorem new_no (hs : St w0 X L w) {n t : Int} (h : newP1 n t = none) :
    Calls Try.prog 12 #[.int .i64 n, .int .i64 t] w fun e w' => e = .returned (.tuple #[.pointer none, .int .i64 2]) ∧ St w0 X L w' := by
  have := new_st hs n t
  rwa [h] at this
theorem new_yes (hs : St w0 X L w) {n t : Int} {p : PP} (h : newP1 n t = some p) :
    Calls Try.prog 12 #[.int .i64 n, .int .i64 t] w fun e w' => ∃ D g, e = .returned (.tuple #[.pointer (some ⟨D, 0, none⟩), .int .i64 0]) ∧ St w0 X (pD D (some ⟨g, 0, none⟩) p.l.length p :: pG g 0 p.l.length p :: L) w' := by
  have := new_st hs n t
  rwa [h] at this
def P0 : PP := ⟨4, List.replicate 3 one1⟩
def P1 : PP := (submit P0 0 10).1
def P2 : PP := (setState P1 1 7 3).1
def P3 : PP := (setState P2 2 7 2).1
def P4 : PP := (turn P3 0 false).1
def P5 : PP := (route P4 2 7 ⟨3, 3, false, false⟩ 1).1
def P6 : PP := (turn P5 0 true).1
theorem ex_facts : newP1 3 4 = some P0 ∧ newP1 0 1 = none ∧ pick P0 7 = (0, 0) ∧ submit P0 0 10 = (P1, 0) ∧ pick P1 7 = (1, 0) ∧ setState P1 1 7 3 = (P2, 0) ∧ pick P2 7 = (2, 0) ∧ setState P2 2 7 2 = (P3, 0) ∧ pick P3 7 = (0, 0) ∧ turn P3 0 false = (P4, 10, 0) ∧ pick P4 7 = (2, 0) ∧ route P4 2 7 ⟨3, 3, false, false⟩ 1 = (P5, 0, 5, 0) ∧ pick P5 7 = (0, 11) ∧ route P5 2 7 ⟨0, 6, false, false⟩ 1 = (P5, 2, 2, 0) ∧ route P5 2 7 ⟨0, 6, false, false⟩ 4 = (P5, 0, 4, 0) ∧ turn P5 0 true = (P6, 0, 0) ∧ route P6 2 7 ⟨0, 7, false, false⟩ 3 = (P6, 0, 3, 0) ∧ decide' ⟨0, 2, false, false⟩ = 4 ∧ done P6 0 1 = (P6, 3) := by
  refine ⟨?_, ?_, ?_, ?_, ?_, ?_, ?_, ?_, ?_, ?_, ?_, ?_, ?_, ?_, ?_, ?_, ?_, ?_, ?_⟩ <;> decide +kernel
theorem ex_ok : OkP P0 ∧ OkP P1 ∧ OkP P2 ∧ OkP P3 ∧ OkP P4 ∧ OkP P5 ∧ OkP P6 := by
  have h0 : OkP P0 := newP1_ok ex_facts.1
  have h1 : OkP P1 := submit_ok h0 0 10
  have h2 : OkP P2 := setState_ok h1 1 7 3
  have h3 : OkP P3 := setState_ok h2 2 7 2
  have h4 : OkP P4 := turn_ok h3 0 false
  have h5 : OkP P5 := route_ok h4 2 7 ⟨3, 3, false, false⟩ 1
  exact ⟨h0, h1, h2, h3, h4, h5, turn_ok h5 0 true⟩
end Pa
end Go.Proofs.Ytplhelhijjmlaaa

/- Layer 45 in plain Lean: what a call of the laws does. Printed by wip/gen_act.py. -/
import Derived.Test.YtplhelhijjmlaaaPathWorks
set_option linter.unusedSimpArgs false
set_option linter.unusedVariables false
namespace Go.Proofs.Ytplhelhijjmlaaa
open Go Go.RowKit
namespace Se
/-- An element of a slice of rows. -/
theorem Reads.elem {α : Type} {L : List At} {g o k : Nat} {f : α → List Value} {l : List α} (hk : ∀ x ∈ l, (f x).length = k) (h : Reads L (some ⟨g, o, none⟩) (l.flatMap f)) {i : Nat} (hi : i < l.length) : Reads L (some ⟨g, o + i * k, none⟩) (f l[i]) := fun w hw => by
  refine .inr ⟨g, o + i * k, rfl, fun j hj => ?_⟩
  have hki := hk l[i] (List.getElem_mem hi)
  have h2 := Pa.flat_get l i j hi (by omega) hk
  rw [List.getElem?_eq_getElem hj] at h2
  have := (h.cell (i * k + j) h2) w hw
  rw [Nat.add_assoc, this, List.getElem?_eq_getElem hj]
theorem St.rd_at {w0 w : World} {X : List Nat} {L : List At} {A : Option Addr} {xs : List Value} (hs : St w0 X L w) (hm : At.rd A xs ∈ L) (hx : xs ≠ []) : ∃ g off, A = some ⟨g, off, none⟩ := by
  obtain ⟨g, off, h, _⟩ := Li.Rd.cells (hs.hold _ hm) hx
  exact ⟨g, off, h⟩
theorem Reads.blkAt {L : List At} (k : Nat) {g : Nat} {t : TypeId} {xs ys : List Value} (h : L[k]? = some (.blk g t xs)) (j : Nat) (hy : xs.drop j = ys) : Reads L (some ⟨g, j, none⟩) ys := by
  have := (Reads.blk k h).at j
  rwa [hy, Nat.zero_add] at this
end Se
namespace Pa
open Se (St At Reads Cell)
structure AA where
  what : Int
  i : Int
  g : Int
  s : Int
  b : Int
  t : Int
  st : Sta
abbrev av (a : AA) : Value := .agg #[.int .i64 a.what, .int .i64 a.i, .int .i64 a.g, .int .i64 a.s, .int .i64 a.b, .int .i64 a.t, .int .u8 a.st.ty, .int .u8 a.st.code, .bool a.st.more, .bool a.st.never]
abbrev ac (a : AA) : List Value := [.int .i64 a.what, .int .i64 a.i, .int .i64 a.g, .int .i64 a.s, .int .i64 a.b, .int .i64 a.t, .int .u8 a.st.ty, .int .u8 a.st.code, .bool a.st.more, .bool a.st.never]
def actP (q : PP) (a : AA) : PP :=
  if a.what = 0 ∨ a.what = 1 then (setState q a.i a.g a.s).1
  else if a.what = 2 then (turn q a.i true).1
  else if a.what = 3 then (turn q a.i false).1
  else if a.what = 4 ∨ a.what = 5 then (submit q a.i a.b).1
  else if a.what = 6 then (done q a.i a.b).1
  else if a.what = 7 then (learn q a.i a.g a.st).1
  else if a.what = 8 ∨ a.what = 9 then (route q a.i a.g a.st a.t).1
  else q
theorem actP_ok {q : PP} (h : OkP q) (a : AA) : OkP (actP q a) := by
  unfold actP
  repeat' split
  · exact setState_ok h ..
  · exact turn_ok h ..
  · exact turn_ok h ..
  · exact submit_ok h ..
  · exact done_ok h ..
  · exact learn_ok h ..
  · exact route_ok h ..
  · exact h
theorem setState_l (q : PP) (i g s : Int) : (setState q i g s).1.l.length = q.l.length ∧ (setState q i g s).1.tries = q.tries := by
  unfold setState; dsimp only; repeat' split
  all_goals simp [put]
theorem turn_l (q : PP) (i : Int) (b : Bool) : (turn q i b).1.l.length = q.l.length ∧ (turn q i b).1.tries = q.tries := by
  unfold turn; dsimp only; repeat' split
  all_goals simp [put]
theorem submit_l (q : PP) (i n : Int) : (submit q i n).1.l.length = q.l.length ∧ (submit q i n).1.tries = q.tries := by
  unfold submit; dsimp only; repeat' split
  all_goals simp [put]
theorem done_l (q : PP) (i n : Int) : (done q i n).1.l.length = q.l.length ∧ (done q i n).1.tries = q.tries := by
  unfold done; dsimp only; repeat' split
  all_goals simp [put]
theorem learn_l (q : PP) (i g : Int) (s : Sta) : (learn q i g s).1.l.length = q.l.length ∧ (learn q i g s).1.tries = q.tries := ⟨learn_len .., learn_tries ..⟩
theorem route_l (q : PP) (i g : Int) (s : Sta) (t : Int) : (route q i g s t).1.l.length = q.l.length ∧ (route q i g s t).1.tries = q.tries := by
  unfold route; dsimp only; repeat' split
  all_goals first | exact ⟨rfl, rfl⟩ | exact learn_l q i g s
theorem actP_len (q : PP) (a : AA) : (actP q a).l.length = q.l.length := by
  unfold actP; repeat' split
  · exact (setState_l ..).1
  · exact (turn_l ..).1
  · exact (turn_l ..).1
  · exact (submit_l ..).1
  · exact (done_l ..).1
  · exact (learn_l ..).1
  · exact (route_l ..).1
  · rfl
/-! The contracts with their results named. -/
section
variable {w0 w : World} {X : List Nat} {L : List At} {A : Option Addr} {D g off c : Nat} {p q : PP}
theorem rSetState_st' (hs : St w0 X L w) (hm : At.rd A (cells p.l) ∈ L) (hp : OkP p) (i gr s : Int) {q : PP} {y : Int} (hq : setState p i gr s = (q, y)) :
    Calls Try.prog 45 #[rv p A c, .int .i64 i, .int .i64 gr, .int .i64 s] w fun e w' => ∃ A' c', e = .returned (.tuple #[rv q A' c', .int .i64 y]) ∧ St w0 X (.rd A' (cells q.l) :: L) w' := by
  have := rSetState_st (c := c) hs hm hp i gr s
  rwa [hq] at this
theorem rConnect_st' (hs : St w0 X L w) (hm : At.rd A (cells p.l) ∈ L) (hp : OkP p) (i : Int) (on : Bool) {q : PP} {n y : Int} (hq : turn p i on = (q, n, y)) :
    Calls Try.prog 46 #[rv p A c, .int .i64 i, .bool on] w fun e w' => ∃ A' c', e = .returned (.tuple #[rv q A' c', .int .i64 n, .int .i64 y]) ∧ St w0 X (.rd A' (cells q.l) :: L) w' := by
  have := rConnect_st (c := c) hs hm hp i on
  rwa [hq] at this
theorem rSubmit_st' (hs : St w0 X L w) (hm : At.rd A (cells p.l) ∈ L) (hp : OkP p) (i n : Int) {q : PP} {y : Int} (hq : submit p i n = (q, y)) :
    Calls Try.prog 47 #[rv p A c, .int .i64 i, .int .i64 n] w fun e w' => ∃ A' c', e = .returned (.tuple #[rv q A' c', .int .i64 y]) ∧ St w0 X (.rd A' (cells q.l) :: L) w' := by
  have := rSubmit_st (c := c) hs hm hp i n
  rwa [hq] at this
theorem rDone_st' (hs : St w0 X L w) (hm : At.rd A (cells p.l) ∈ L) (hp : OkP p) (i n : Int) {q : PP} {y : Int} (hq : done p i n = (q, y)) :
    Calls Try.prog 48 #[rv p A c, .int .i64 i, .int .i64 n] w fun e w' => ∃ A' c', e = .returned (.tuple #[rv q A' c', .int .i64 y]) ∧ St w0 X (.rd A' (cells q.l) :: L) w' := by
  have := rDone_st (c := c) hs hm hp i n
  rwa [hq] at this
theorem rRoute_st' (hs : St w0 X L w) (hm : At.rd A (cells p.l) ∈ L) (hp : OkP p) (i gr : Int) (s : Sta) (hS : okSt s) (tr : Int) {q : PP} {n a y : Int} (hq : route p i gr s tr = (q, n, a, y)) :
    Calls Try.prog 50 #[rv p A c, .int .i64 i, .int .i64 gr, stv s, .int .i64 tr] w fun e w' => ∃ A' c', e = .returned (.tuple #[rv q A' c', .int .i64 n, .int .i64 a, .int .i64 y]) ∧ St w0 X (.rd A' (cells q.l) :: L) w' := by
  have := rRoute_st (c := c) hs hm hp i gr s hS tr
  rwa [hq] at this
theorem rState_st' (hs : St w0 X L w) (hm : At.rd A (cells p.l) ∈ L) (hp : OkP p) (i gr : Int) {n y : Int} (hq : state p i gr = (n, y)) :
    Calls Try.prog 52 #[rv p A c, .int .i64 i, .int .i64 gr] w fun e w' => e = .returned (.tuple #[.int .i64 n, .int .i64 y]) ∧ St w0 X L w' := by
  have := rState_st (c := c) hs hm hp i gr
  rwa [hq] at this
end
end Pa
end Go.Proofs.Ytplhelhijjmlaaa

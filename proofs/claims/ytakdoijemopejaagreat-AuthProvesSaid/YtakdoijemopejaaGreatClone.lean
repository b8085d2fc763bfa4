/- slices.Clone of a slice of bytes. No condition but Go's own limits. -/
import Derived.Test.YtakdoijemopejaaGreatOwnSame
import Derived.Laws.Cover3
set_option linter.unusedSimpArgs false
set_option linter.unusedVariables false
namespace Go.Proofs.YtakdoijemopejaaGreat
open Go Go.RowKit
theorem eql_nil (A : Option Addr) (n c : Nat) (w : World) : (binOp .eql 22 (.slice A n c) (.slice none 0 0)).run Tryz.prog w = .ok (.bool A.isNone) w := by
 simp [binOp, run_equal_slice_nil w 22 _ A n c Tryz.underlying22]
attribute [local go_sem] eql_nil
theorem clone_any {A : Option Addr} {n c : Nat} {xs : List Value} (w : World) (hR : Li.Rd w A xs) (hx : ∀ v ∈ xs, v.oneCell' = true) (hn : n = xs.length) (hle : n ≤ 70368744177664) :
  Calls Tryz.prog 40 #[.slice A n c] w fun e w' => ∃ A' c' r', e = .returned (.slice A' n c') ∧ Li.Os w' 5 r' A' c' xs ∧ Below w.heap.size w w' ∧ (r' = none ∨ w.heap.size ≤ r'.getD 0) := by
 have HN := Lib.hid hn
 cases A with
 | none =>
  have h0 : xs = [] := by
   rcases hR with h | ⟨_, _, h, _⟩
   ·exact h
   ·cases h
  subst h0
  have hn0 : n = 0 := hn
  clear HN
  clear hn
  subst hn0
  go_enter Tryz.func40, Tryz.ntmps40
  go_wp2
  go_ret
  exact ⟨none, 0, none, rfl, Li.Os.nil _ _ _, Below.refl _ _, .inl rfl⟩
 | some a =>
  clear hn
  go_enter Tryz.func40, Tryz.ntmps40
  go_wp2_with (refine Li.wpList_append_os (n := 0) (m := n) (z := .int .u8 0) rfl _ _ rfl Tryz.underlying22 info5 rfl (by rfl) (by rfl) (Li.Os.nil _ _ _) (hR.grow (Hv.Ext.alloc _ _)) hx rfl HN.out (by omega) ?_; intro A1 c1 r1 w1 h1 h2 h3)
  go_ret
  refine ⟨A1, c1, r1, rfl, h1, (Hv.Ext.alloc _ _).trans ((Li.grown_none h2).mono (by simp only [World.size_alloc]; omega)), ?_⟩
  rcases h3 with h3 | h3
  ·exact .inl h3
  ·right; rw [h3]; simp
end Go.Proofs.YtakdoijemopejaaGreat


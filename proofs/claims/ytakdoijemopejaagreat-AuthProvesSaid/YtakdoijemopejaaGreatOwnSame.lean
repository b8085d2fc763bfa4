/- Own copies and sameness of bytes. No condition but Go's own limits. -/
import Derived.Test.YtakdoijemopejaaGreatBaseA
set_option linter.unusedSimpArgs false
set_option linter.unusedVariables false
namespace Go.Proofs.YtakdoijemopejaaGreat
open Go Go.RowKit
theorem info5 : (Tryz.prog.info? 5).map (fun i => (i.zero, i.size, i.bytes)) = some (some (.int .u8 0), 1, 1) := by kernel_rfl
/-- An own copy. -/
theorem own_any {A : Option Addr} {n c : Nat} {xs : List Value} (w : World) (hR : Li.Rd w A xs) (hx : ∀ v ∈ xs, v.oneCell' = true) (hn : n = xs.length) (hle : n ≤ 70368744177664) :
  Calls Tryz.prog 13 #[.slice A n c] w fun e w' => ∃ A' c' r', e = .returned (.slice A' n c') ∧ Li.Os w' 5 r' A' c' xs ∧ Below w.heap.size w w' ∧ (r' = none ∨ r' = some w.heap.size) := by
 have HN := Lib.hid hn
 clear hn
 go_enter Tryz.func13, Tryz.ntmps13
 go_wp2_with (refine Li.wpList_append_os (n := 0) (m := n) (z := .int .u8 0) rfl _ _ rfl Tryz.underlying22 info5 rfl (by rfl) (by rfl) (Li.Os.nil _ _ none) hR hx rfl HN.out (by omega) ?_; intro A1 c1 r1 w1 h1 h2 h3)
 go_ret
 exact ⟨A1, c1, r1, rfl, h1, Li.grown_none h2, h3⟩
/-- Sameness of equal slices. -/
theorem same_any {A B : Option Addr} {n m c d : Nat} {bs cs : List (BitVec 8)} (w : World) (hA : Li.Rd w A (bs.map Li.v8)) (hB : Li.Rd w B (cs.map Li.v8)) (hn : n = bs.length) (hm : m = cs.length) (he : bs = cs) :
  Calls Tryz.prog 12 #[.slice A n c, .slice B m d] w fun e w' => e = .returned (.bool true) ∧ w = w' := by
 have h1 := Li.run_str (P := Tryz.prog) (dst := 9) (src := 22) Tryz.underlying22 Tryz.underlying5 Tryz.underlying9 (c := c) hA hn
 have h2 := Li.run_str (P := Tryz.prog) (dst := 9) (src := 22) Tryz.underlying22 Tryz.underlying5 Tryz.underlying9 (c := d) hB hm
 subst he
 obtain ⟨S, hS⟩ : ∃ S, S = Li.str bs := ⟨_, rfl⟩
 rw [← hS] at h1 h2
 clear hS hA hB hn hm
 go_enter Tryz.func12, Tryz.ntmps12
 go_wp2_with fail
 go_ret
 exact ⟨by simp, rfl⟩
end Go.Proofs.YtakdoijemopejaaGreat


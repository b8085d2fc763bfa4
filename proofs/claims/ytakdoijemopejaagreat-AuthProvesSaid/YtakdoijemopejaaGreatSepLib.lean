/- Contracts over pieces of memory: Own, Clone, the hashes. No condition but that lengths are small. -/
import Derived.Test.YtakdoijemopejaaGreatBaseB
import Derived.Test.YtakdoijemopejaaGreatClone
import Derived.Test.YtakdoijemopejaaGreatShaRSum
set_option maxRecDepth 100000
set_option linter.unusedSimpArgs false
set_option linter.unusedVariables false
namespace Go.Proofs.YtakdoijemopejaaGreat
open Go Go.RowKit
open Se Li
theorem Se.one1 {v : Value} (h : v.oneCell' = true) : ∀ u ∈ [v], u.oneCell' = true := by intro u hu; rw [List.mem_singleton.1 hu]; exact h
section
variable {w0 w : World} {X : List Nat} {L : List At}
theorem own_st (hs : St w0 X L w) {A : Option Addr} {n c : Nat} {xs : List Value} (hr : Reads L A xs) (hx : ∀ v ∈ xs, v.oneCell' = true) (hn : n = xs.length) (hle : n ≤ 70368744177664) :
  Calls Tryz.prog 13 #[.slice A n c] w fun e w' => ∃ A' c' r', e = .returned (.slice A' n c') ∧ St w0 X (.own 1 r' A' n c' xs :: L) w' :=
 (own_any w (hr w hs.hold) hx hn hle).mono fun _ _ ⟨A', c', r', h1, h2, h3, h4⟩ => ⟨A', c', r', h1, hs.ofOs h2 h3 (by rcases h4 with rfl | rfl <;> simp) hn⟩
theorem clone_st (hs : St w0 X L w) {A : Option Addr} {n c : Nat} {xs : List Value} (hr : Reads L A xs) (hx : ∀ v ∈ xs, v.oneCell' = true) (hn : n = xs.length) (hle : n ≤ 70368744177664) :
  Calls Tryz.prog 40 #[.slice A n c] w fun e w' => ∃ A' c' r', e = .returned (.slice A' n c') ∧ St w0 X (.own 1 r' A' n c' xs :: L) w' :=
 (clone_any w (hr w hs.hold) hx hn hle).mono fun _ _ ⟨A', c', r', h1, h2, h3, h4⟩ => ⟨A', c', r', h1, hs.ofOs h2 h3 h4 hn⟩
theorem same_st (hs : St w0 X L w) {A B : Option Addr} {n m c d : Nat} {bs cs : List (BitVec 8)} (hA : Reads L A (bs.map v8)) (hB : Reads L B (cs.map v8)) (hn : n = bs.length) (hm : m = cs.length) (he : bs = cs) :
  Calls Tryz.prog 12 #[.slice A n c, .slice B m d] w fun e w' => e = .returned (.bool true) ∧ w = w' :=
 same_any w (hA w hs.hold) (hB w hs.hold) hn hm he
theorem sha_st (hs : St w0 X L w) {A : Option Addr} {n c : Nat} {M : List (BitVec 8)} {R : List Value} (hR : R = (Sha.shaL M).map v8) (hr : Reads L A (M.map v8)) (hn : n = M.length) (hle : M.length ≤ 549755813888) :
  Calls Tryz.prog 61 #[.slice A n c] w fun e w' => e = .returned (.agg R.toArray) ∧ St w0 X L w' := by
 subst hR; exact (Sha.sha_any M A n c hn hle w (hr w hs.hold)).mono fun _ _ ⟨h1, h2⟩ => ⟨h1, hs.ext h2⟩
theorem rsha_st (hs : St w0 X L w) {A : Option Addr} {n c : Nat} {M : List (BitVec 8)} {R : List Value} (hR : R = (Sha.shaL M).map v8) (hr : Reads L A (M.map v8)) (hn : n = M.length) (hle : M.length ≤ 549755813888) :
  Calls Tryz.prog 52 #[.slice A n c] w fun e w' => e = .returned (.agg R.toArray) ∧ St w0 X L w' := by
 subst hR; exact (Sha.rsum_any M A n c hn hle w (hr w hs.hold)).mono fun _ _ ⟨h1, h2⟩ => ⟨h1, hs.ext h2⟩
end
end Go.Proofs.YtakdoijemopejaaGreat


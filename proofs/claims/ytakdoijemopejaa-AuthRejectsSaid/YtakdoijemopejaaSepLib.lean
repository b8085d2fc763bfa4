/- Contracts over pieces of memory: Own, Clone, the hashes. No condition but that lengths are small. -/
import Derived.Test.YtakdoijemopejaaBaseB
import Derived.Test.YtakdoijemopejaaClone
import Derived.Test.YtakdoijemopejaaShaRSum
set_option maxRecDepth 100000
set_option linter.unusedSimpArgs false
set_option linter.unusedVariables false
namespace Go.Proofs.Ytakdoijemopejaa
open Go Go.RowKit
open Se Li
section
variable {w0 w : World} {X : List Nat} {L : List At}
theorem own_st (hs : St w0 X L w) {A : Option Addr} {n c : Nat} {xs : List Value} (hr : Reads L A xs) (hx : ∀ v ∈ xs, v.oneCell' = true) (hn : n = xs.length) (hle : n ≤ 70368744177664) :
  Calls Try.prog 18 #[.slice A n c] w fun e w' => ∃ A' c' r', e = .returned (.slice A' n c') ∧ St w0 X (.own 1 r' A' n c' xs :: L) w' :=
 (own_any w (hr w hs.hold) hx hn hle).mono fun _ _ ⟨A', c', r', h1, h2, h3, h4⟩ => ⟨A', c', r', h1, hs.ofOs h2 h3 (by rcases h4 with rfl | rfl <;> simp) hn⟩
theorem clone_st (hs : St w0 X L w) {A : Option Addr} {n c : Nat} {xs : List Value} (hr : Reads L A xs) (hx : ∀ v ∈ xs, v.oneCell' = true) (hn : n = xs.length) (hle : n ≤ 70368744177664) :
  Calls Try.prog 30 #[.slice A n c] w fun e w' => ∃ A' c' r', e = .returned (.slice A' n c') ∧ St w0 X (.own 1 r' A' n c' xs :: L) w' :=
 (clone_any w (hr w hs.hold) hx hn hle).mono fun _ _ ⟨A', c', r', h1, h2, h3, h4⟩ => ⟨A', c', r', h1, hs.ofOs h2 h3 h4 hn⟩
theorem same_st (hs : St w0 X L w) {A B : Option Addr} {n m c d : Nat} {bs cs : List (BitVec 8)} (hA : Reads L A (bs.map v8)) (hB : Reads L B (cs.map v8)) (hn : n = bs.length) (hm : m = cs.length) (he : bs = cs) :
  Calls Try.prog 20 #[.slice A n c, .slice B m d] w fun e w' => e = .returned (.bool true) ∧ w = w' :=
 same_any w (hA w hs.hold) (hB w hs.hold) hn hm he
theorem sha_st (hs : St w0 X L w) {A : Option Addr} {n c : Nat} {M : List (BitVec 8)} {R : List Value} (hR : R = (Sha.shaL M).map v8) (hr : Reads L A (M.map v8)) (hn : n = M.length) (hle : M.length ≤ 549755813888) :
  Calls Try.prog 48 #[.slice A n c] w fun e w' => e = .returned (.agg R.toArray) ∧ St w0 X L w' := by
 subst hR; exact (Sha.sha_any M A n c hn hle w (hr w hs.hold)).mono fun _ _ ⟨h1, h2⟩ => ⟨h1, hs.ext h2⟩
end
end Go.Proofs.Ytakdoijemopejaa


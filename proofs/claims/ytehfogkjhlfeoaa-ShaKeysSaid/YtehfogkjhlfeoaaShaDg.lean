/- A digest as a piece of memory. No condition but that lengths are small. -/
import Derived.Test.YtehfogkjhlfeoaaShaLaw
namespace Go.Proofs.Ytehfogkjhlfeoaa
open Go Go.RowKit
open Se Li
namespace Sha
open Bv (n8 n16 n32 n64)
theorem Dg.of_block {w w' : World} {D : Nat} {r : Option Nat} {M : List (BitVec 8)} (h : Dg w D r M) (e : ∀ b ∈ D :: r.toList, w'.heap[b]? = w.heap[b]?) : Dg w' D r M := by
  obtain ⟨s, k, A, c, h⟩ := h
  exact ⟨s, k, A, c, h.d.of_block (e D List.mem_cons_self), h.o.of_block fun g hg => e g (by simp [hg]), h.hs, h.hk, h.hrd, h.le⟩
theorem Dg.lts {w : World} {D : Nat} {r : Option Nat} {M : List (BitVec 8)} (h : Dg w D r M) : ∀ b ∈ D :: r.toList, b < w.heap.size := by
  intro b hb
  rcases List.mem_cons.1 hb with rfl | hb
  · exact h.lt
  · cases r with
    | none => simp at hb
    | some g => simp at hb; subst hb; exact h.rlt
theorem Dg.ne {w : World} {D : Nat} {r : Option Nat} {M : List (BitVec 8)} (h : Dg w D r M) : r ≠ some D := by
  obtain ⟨s, k, A, c, h⟩ := h
  exact h.ne
theorem Dg.nd {w : World} {D : Nat} {r : Option Nat} {M : List (BitVec 8)} (h : Dg w D r M) : (D :: r.toList).Nodup := by
  have := h.ne
  cases r with
  | none => simp
  | some g => simp; intro e; exact this (by rw [e])
/-- The digest D that has taken M. -/
def Da (D : Nat) (r : Option Nat) (M : List (BitVec 8)) : At := .abs (D :: r.toList) (fun w => Dg w D r M) (fun _ h => Dg.lts h) (fun _ _ h e => Dg.of_block h e)
section
variable {w0 w : World} {X : List Nat} {L : List At}
theorem Da.get {D : Nat} {r : Option Nat} {M : List (BitVec 8)} (hs : St w0 X (Da D r M :: L) w) : Dg w D r M := hs.hold _ List.mem_cons_self
theorem Da.at {D : Nat} {r : Option Nat} {M : List (BitVec 8)} (k : Nat) (hs : St w0 X L w) (hk : L[k]? = some (Da D r M)) : Dg w D r M := hs.hold (Da D r M) (List.mem_of_getElem? hk)
theorem Da.zero {D : Nat} {l : List Value} (hl : l = chW zs8 zs64 false (.slice none 0 0) (.int .i64 0)) (hs : St w0 X (.blk D 42 l :: L) w) : St w0 X (Da D none [] :: L) w := by
  subst hl
  exact hs.abs (φ := fun w => Dg w D none []) _ _ (by simp) (by simp [At.owned]) (Dg.zero (hs.hold _ List.mem_cons_self))
theorem write_st {D : Nat} {r : Option Nat} {M p : List (BitVec 8)} (hs : St w0 X (Da D r M :: L) w) {B : Option Addr} {n cap : Nat} (hn : n = p.length) (hlen : M.length + p.length ≤ 1099511627776) (hB : Reads L B (p.map v8)) :
    Calls Try.prog 21 #[.pointer (some ⟨D, 0, none⟩), .slice B n cap] w fun e w' => e = .returned (.int .i64 0) ∧ ∃ r', St w0 X (Da D r' (M ++ p) :: L) w' := by
  refine (write_any D r M p B n cap hn hlen w (Da.get hs) (hB w hs.drop.hold) fun a ha hx => ?_).mono ?_
  · intro e
    exact Reads.far hs hB (by simpa using hx) a ha (by rw [e]; simp [Da, At.owned])
  · rintro e w' ⟨rfl, r', hD, hF, hr⟩
    refine ⟨rfl, r', St.turn (P := [Da D r M]) (P' := [Da D r' (M ++ p)]) hs (hF.mono fun b _ hb => ?_) (by simp only [List.mem_singleton, forall_eq]; exact hD) (by simp only [List.mem_singleton, forall_eq]; trivial) (by simpa [ownedL, Da, At.owned] using hD.nd) ?_⟩
    · rcases hb with rfl | hb
      · simp [ownedL, Da, At.owned]
      · simp [ownedL, Da, At.owned, hb]
    · intro b hb
      simp only [ownedL, List.flatMap_cons, List.flatMap_nil, List.append_nil, Da, At.owned] at hb ⊢
      rcases List.mem_cons.1 hb with rfl | hb
      · exact .inl List.mem_cons_self
      · rcases hr with rfl | rfl | rfl
        · exact .inl (List.mem_cons_of_mem _ hb)
        · simp at hb
        · simp at hb; omega
theorem sum_st {D : Nat} {r : Option Nat} {M : List (BitVec 8)} (hs : St w0 X L w) (hD : Dg w D r M) {R : List Value} (hR : R = (shaL M).map v8) (hM : M.length ≤ 549755813888) :
    Calls Try.prog 22 #[.pointer (some ⟨D, 0, none⟩)] w fun e w' => e = .returned (.agg R.toArray) ∧ St w0 X L w' := by
  subst hR
  exact (sum_any D r M hM w hD).mono fun e w' ⟨h1, h2⟩ => ⟨h1, hs.ext h2⟩
theorem copy_st {D : Nat} {r : Option Nat} {M : List (BitVec 8)} (hs : St w0 X L w) (hD : Dg w D r M) :
    Calls Try.prog 24 #[.pointer (some ⟨D, 0, none⟩)] w fun e w' => ∃ D' r', e = .returned (.pointer (some ⟨D', 0, none⟩)) ∧ St w0 X (Da D' r' M :: L) w' := by
  refine (copy_any D r M w hD).mono ?_
  rintro e w' ⟨D', r', rfl, h1, h2, h3, h4⟩
  refine ⟨D', r', rfl, St.turn (P := []) (P' := [Da D' r' M]) hs (Fr.ext h3) (by simp only [List.mem_singleton, forall_eq]; exact h2) (by simp only [List.mem_singleton, forall_eq]; trivial) (by simpa [ownedL, Da, At.owned] using h2.nd) ?_⟩
  intro b hb
  simp only [ownedL, List.flatMap_cons, List.flatMap_nil, List.append_nil, Da, At.owned] at hb ⊢
  rcases List.mem_cons.1 hb with rfl | hb
  · exact .inr h1
  · exact .inr (h4 b (by simpa using hb))
set_option maxHeartbeats 1000000 in
theorem len_st {D : Nat} {r : Option Nat} {M : List (BitVec 8)} (hD : Dg w D r M) {m : Nat} (hm : m = M.length) :
    Calls Try.prog 23 #[.pointer (some ⟨D, 0, none⟩)] w fun e w' => e = .returned (.int .i64 (m : Nat)) ∧ w = w' := by
  obtain ⟨s, k, A, c, h⟩ := hD
  have c74 := (h.d.cell 74).trans (chW_74 h.hs h.hk _ _ _)
  rw [← hm] at c74
  clear h hm
  go_enter Try.func23, Try.ntmps23
  go_wp2_with fail
  go_ret
  exact ⟨rfl, rfl⟩
theorem wnil_any (B : Option Addr) (n c : Nat) : Calls Try.prog 21 #[.pointer none, .slice B n c] w fun e w' => e = .returned (.int .i64 1) ∧ w = w' := by
  go_enter Try.func21, Try.ntmps21
  go_wp2_with fail
  go_ret
  exact ⟨rfl, rfl⟩
theorem lnil_any : Calls Try.prog 23 #[.pointer none] w fun e w' => e = .returned (.int .i64 0) ∧ w = w' := by
  go_enter Try.func23, Try.ntmps23
  go_wp2_with fail
  go_ret
  exact ⟨rfl, rfl⟩
theorem cnil_any : Calls Try.prog 24 #[.pointer none] w fun e w' => e = .returned (.pointer none) ∧ w = w' := by
  go_enter Try.func24, Try.ntmps24
  go_wp2_with fail
  go_ret
  exact ⟨rfl, rfl⟩
end
end Sha
end Go.Proofs.Ytehfogkjhlfeoaa

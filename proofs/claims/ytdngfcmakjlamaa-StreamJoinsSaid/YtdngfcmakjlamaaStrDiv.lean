/- Layer 36 in plain Lean: the division of a stream does not matter. No condition. -/
import Derived.Test.YtdngfcmakjlamaaStrRef
set_option linter.unusedSimpArgs false
set_option linter.unusedVariables false
namespace Go.Proofs.Ytdngfcmakjlamaa
namespace Sr
open Pd (Fm PDU meas dec framed)
theorem meas_pre {a x : List (BitVec 8)} {f : Fm} (h : 8 ≤ a.length) : meas (a ++ x) f = meas a f := by
 have g : ∀ i, i < 8 → (a ++ x).getD i 0#8 = a.getD i 0#8 := fun i hi => by
  rw [List.getD_eq_getElem?_getD, List.getD_eq_getElem?_getD, List.getElem?_append_left (by omega)]
 have s : Pd.sub (a ++ x) 4 8 = Pd.sub a 4 8 := by
  unfold Pd.sub
  rw [List.take_append_of_le_length h]
 unfold meas
 rw [g 0 (by decide), g 1 (by decide), g 2 (by decide), g 3 (by decide), s]
 have l1 : ¬ (a ++ x).length < 8 := by simp; omega
 have l2 : ¬ a.length < 8 := by omega
 rw [if_neg l1, if_neg l2]
theorem hdr_big (k : Nat) : Pd.hdr k = 0 ∨ 24 ≤ Pd.hdr k := by unfold Pd.hdr; split <;> simp
theorem meas_pos {b : List (BitVec 8)} {f : Fm} (h : (meas b f).2 = 0) : 24 ≤ (meas b f).1 := by
 unfold meas at h ⊢
 dsimp only at h ⊢
 by_cases h1 : framed f = false
 ·rw [if_pos h1] at h; cases h
 rw [if_neg h1] at h ⊢
 by_cases h2 : b.length < 8
 ·rw [if_pos h2] at h; cases h
 rw [if_neg h2] at h ⊢
 generalize (b.getD 0 0#8).toNat = k at *
 generalize (b.getD 1 0#8).toNat = fl at *
 generalize (b.getD 2 0#8).toNat = hl at *
 generalize (b.getD 3 0#8).toNat = at0 at *
 generalize Pd.bigL (Pd.sub b 4 8) = total at *
 have hk := hdr_big k
 have hst := Pd.start_ge k (f := f) (by simpa using h1)
 generalize Pd.start k f = st at *
 generalize Pd.hsum k f = hsu at *
 generalize Pd.hdr k = hk0 at *
 generalize Pd.most k = mk at *
 by_cases h3 : hk0 = 0
 ·rw [if_pos h3] at h; cases h
 rw [if_neg h3] at h ⊢
 split at h
 ·cases h
 rename_i h4
 rw [if_neg h4]
 clear h4
 split at h
 ·cases h
 rename_i h5
 rw [if_neg h5]
 split at h
 ·cases h
 rename_i h6
 rw [if_neg h6]
 dsimp only
 generalize Pd.dsum k f (decide (0 < at0)) = ds at *
 have h7 : ¬ (at0 = 0 ∧ total ≠ hk0 + hsu) ∧ ¬ (0 < at0 ∧ (total < at0 + 1 + ds ∨ at0 + mk + ds < total)) := ⟨fun h => h6 (.inr (.inl h)), fun h => h6 (.inr (.inr h))⟩
 have h8 : ¬ (at0 ≠ 0 ∧ at0 ≠ st) := fun h => h5 (.inr (.inl h))
 clear h5 h6
 omega
theorem take_pre {s : Rc} {p : PDU} {n e : Nat} (h : takeE s = (p, n, e)) (he : e ≠ 9) (x : List (BitVec 8)) : takeE { s with b := s.b ++ x } = (p, n, e) := by
 unfold takeE at h ⊢
 dsimp only at h ⊢
 by_cases h1 : s.b.length < 8
 ·rw [if_pos h1] at h; cases h; exact absurd rfl he
 rw [if_neg h1] at h
 rw [if_neg (by rw [List.length_append]; omega), meas_pre (by omega)]
 by_cases h2 : (meas s.b s.f).2 ≠ 0
 ·rw [if_pos h2] at h ⊢; exact h
 rw [if_neg h2] at h ⊢
 by_cases h3 : s.mo < (meas s.b s.f).1
 ·rw [if_pos h3] at h ⊢; exact h
 rw [if_neg h3] at h ⊢
 by_cases h4 : s.b.length < (meas s.b s.f).1
 ·rw [if_pos h4] at h; cases h; exact absurd rfl he
 rw [if_neg h4] at h
 rw [if_neg (by rw [List.length_append]; omega), List.take_append_of_le_length (by omega)]
 exact h
theorem take_pos {s : Rc} {p : PDU} {n : Nat} (h : takeE s = (p, n, 0)) : 24 ≤ n := by
 unfold takeE at h
 by_cases h1 : s.b.length < 8
 ·rw [if_pos h1] at h; cases h
 rw [if_neg h1] at h
 by_cases h2 : (meas s.b s.f).2 ≠ 0
 ·rw [if_pos h2] at h
  have := (Prod.mk.inj (Prod.mk.inj h).2).2
  exact absurd this h2
 rw [if_neg h2] at h
 by_cases h3 : s.mo < (meas s.b s.f).1
 ·rw [if_pos h3] at h; cases h
 rw [if_neg h3] at h
 by_cases h4 : s.b.length < (meas s.b s.f).1
 ·rw [if_pos h4] at h; cases h
 rw [if_neg h4] at h
 have := (Prod.mk.inj (Prod.mk.inj h).2).1
 have h5 := meas_pos (b := s.b) (f := s.f) (by omega)
 omega
/-- Next, until it returns an error. -/
def drn : Nat → Rc → List PDU × Nat × Rc
 | 0, s => ([], 0, s)
 | k + 1, s => if (nextE s).2.2 ≠ 0 then ([], (nextE s).2.2, (nextE s).1) else ((nextE s).2.1 :: (drn k (nextE s).1).1, (drn k (nextE s).1).2)
theorem next_cases (s : Rc) (h0 : s.e = 0) : ∃ p n e, takeE s = (p, n, e) ∧ ((e = 9 ∧ nextE s = (s, {}, 9)) ∨ (e ≠ 9 ∧ e ≠ 0 ∧ nextE s = ({ s with e := e, b := [] }, {}, e)) ∨ (e = 0 ∧ 24 ≤ n ∧ n ≤ s.b.length ∧ nextE s = ({ s with b := s.b.drop n, nb := s.nb + n, np := s.np + 1 }, p, 0))) := by
 obtain ⟨⟨p, n, e⟩, h⟩ : ∃ x, takeE s = x := ⟨_, rfl⟩
 refine ⟨p, n, e, h, ?_⟩
 unfold nextE
 rw [if_neg (by simpa using h0), h]
 by_cases h9 : e = 9
 ·subst h9; left; exact ⟨rfl, rfl⟩
 right
 by_cases he : e = 0
 ·subst he; right; exact ⟨rfl, take_pos h, take_len h, rfl⟩
 ·left
  refine ⟨h9, he, ?_⟩
  dsimp only
  rw [if_neg h9, if_pos he]
theorem next_pre {s : Rc} (h0 : s.e = 0) (x : List (BitVec 8)) (h : (nextE s).2.2 ≠ 9) : (nextE { s with b := s.b ++ x }).2 = (nextE s).2 ∧ ((nextE s).2.2 = 0 → (nextE { s with b := s.b ++ x }).1 = { (nextE s).1 with b := (nextE s).1.b ++ x }) := by
 obtain ⟨p, n, e, ht, (⟨_, hn⟩ | ⟨h9, he, hn⟩ | ⟨he, _, hl, hn⟩)⟩ := next_cases s h0
 ·rw [hn] at h; exact absurd rfl h
 ·have h2 := take_pre ht h9 x
  rw [hn]
  unfold nextE
  rw [if_neg (by simpa using h0), h2]
  dsimp only
  rw [if_neg h9, if_pos he]
  exact ⟨rfl, fun h => absurd h he⟩
 ·have h2 := take_pre ht (by omega) x
  rw [hn]
  unfold nextE
  rw [if_neg (by simpa using h0), h2]
  subst he
  refine ⟨rfl, fun _ => ?_⟩
  dsimp only
  rw [if_neg (by decide), if_neg (by decide), List.drop_append_of_le_length hl]
theorem next_e0 {s : Rc} (h0 : s.e = 0) (h : (nextE s).2.2 = 0 ∨ (nextE s).2.2 = 9) : (nextE s).1.e = 0 ∧ (nextE s).1.f = s.f ∧ (nextE s).1.mo = s.mo := by
 obtain ⟨p, n, e, ht, (⟨_, hn⟩ | ⟨h9, he, hn⟩ | ⟨he, _, hl, hn⟩)⟩ := next_cases s h0
 ·rw [hn]; exact ⟨h0, rfl, rfl⟩
 ·rw [hn] at h; dsimp only at h; omega
 ·rw [hn]; exact ⟨h0, rfl, rfl⟩
theorem next_short {s : Rc} (h0 : s.e = 0) (h : (nextE s).2.2 = 0) : (nextE s).1.b.length + 24 ≤ s.b.length := by
 obtain ⟨p, n, e, ht, (⟨_, hn⟩ | ⟨h9, he, hn⟩ | ⟨he, hp, hl, hn⟩)⟩ := next_cases s h0
 ·rw [hn] at h; cases h
 ·rw [hn] at h; exact absurd h he
 ·rw [hn]; dsimp only; rw [List.length_drop]; omega
theorem next_nine {s : Rc} (h0 : s.e = 0) (h : (nextE s).2.2 = 9) : (nextE s).1 = s := by
 obtain ⟨p, n, e, ht, (⟨_, hn⟩ | ⟨h9, he, hn⟩ | ⟨he, hp, hl, hn⟩)⟩ := next_cases s h0
 ·rw [hn]
 ·rw [hn] at h; exact absurd h h9
 ·rw [hn] at h; cases h
/-- Enough rounds are enough. -/
theorem drn_more : ∀ (k m : Nat) (s : Rc), s.e = 0 → s.b.length < 24 * k → k ≤ m → drn m s = drn k s
 | 0, _, _, _, h, _ => by omega
 | k + 1, 0, _, _, _, h => by omega
 | k + 1, m + 1, s, h0, h, hm => by
  simp only [drn]
  by_cases he : (nextE s).2.2 = 0
  ·have h1 := next_short h0 he
   have h2 := next_e0 h0 (.inl he)
   rw [drn_more k m (nextE s).1 h2.1 (by omega) (by omega)]
  ·rw [if_pos he, if_pos he]
/-- The end of a drain: an error that is not 0; its state. -/
theorem drn_end : ∀ (k : Nat) (s : Rc), s.e = 0 → s.b.length < 24 * k → (drn k s).2.1 ≠ 0 ∧ (drn k s).2.2.f = s.f ∧ (drn k s).2.2.mo = s.mo ∧ (drn k s).2.2.b.length ≤ s.b.length ∧ ((drn k s).2.1 = 9 → (drn k s).2.2.e = 0 ∧ (nextE (drn k s).2.2).2.2 = 9) ∧ ((drn k s).2.1 ≠ 9 → (drn k s).2.2.e = (drn k s).2.1)
 | 0, _, _, h => by omega
 | k + 1, s, h0, h => by
  simp only [drn]
  by_cases he : (nextE s).2.2 = 0
  ·have h1 := next_short h0 he
   have h2 := next_e0 h0 (.inl he)
   rw [if_neg (by simpa using he)]
   have ih := drn_end k (nextE s).1 h2.1 (by omega)
   rw [h2.2.1, h2.2.2] at ih
   exact ⟨ih.1, ih.2.1, ih.2.2.1, by have := ih.2.2.2.1; dsimp only; omega, ih.2.2.2.2⟩
  ·rw [if_pos he]
   obtain ⟨p, n, e, ht, (⟨_, hn⟩ | ⟨h9, he', hn⟩ | ⟨he', hp, hl, hn⟩)⟩ := next_cases s h0
   ·rw [hn]; exact ⟨fun h => absurd h (by simp), rfl, rfl, Nat.le_refl _, fun _ => ⟨h0, by rw [hn]⟩, fun h => absurd rfl h⟩
   ·rw [hn]; exact ⟨he', rfl, rfl, Nat.zero_le _, fun h => absurd h h9, fun _ => rfl⟩
   ·rw [hn] at he; exact absurd rfl he
/-- More bytes behind a drain that ended for want of bytes. -/
theorem drn_app : ∀ (k : Nat) (s : Rc) (x : List (BitVec 8)), s.e = 0 → s.b.length + x.length < 24 * k → (drn k s).2.1 = 9 → drn k { s with b := s.b ++ x } = ((drn k s).1 ++ (drn k { (drn k s).2.2 with b := (drn k s).2.2.b ++ x }).1, (drn k { (drn k s).2.2 with b := (drn k s).2.2.b ++ x }).2)
 | 0, _, _, _, h, _ => by omega
 | k + 1, s, x, h0, h, h9 => by
  by_cases he : (nextE s).2.2 = 0
  ·have h1 := next_short h0 he
   have h2 := next_e0 h0 (.inl he)
   have hd : drn (k + 1) s = ((nextE s).2.1 :: (drn k (nextE s).1).1, (drn k (nextE s).1).2) := by simp only [drn]; rw [if_neg (by simpa using he)]
   have hp := next_pre h0 x (by omega)
   have hd2 : drn (k + 1) { s with b := s.b ++ x } = ((nextE s).2.1 :: (drn k { (nextE s).1 with b := (nextE s).1.b ++ x }).1, (drn k { (nextE s).1 with b := (nextE s).1.b ++ x }).2) := by
    simp only [drn]
    rw [if_neg (by rw [hp.1]; simpa using he), hp.2 he, hp.1]
   rw [hd] at h9
   dsimp only at h9
   have ih := drn_app k (nextE s).1 x h2.1 (by omega) h9
   have hend := drn_end k (nextE s).1 h2.1 (by omega)
   rw [hd2, ih, hd]
   dsimp only
   have hm := drn_more k (k + 1) { (drn k (nextE s).1).2.2 with b := (drn k (nextE s).1).2.2.b ++ x } (hend.2.2.2.2.1 h9).1 (by simp only [List.length_append]; have := hend.2.2.2.1; omega) (by omega)
   rw [hm]
   rfl
  ·have hd : drn (k + 1) s = ([], (nextE s).2.2, (nextE s).1) := by simp only [drn]; rw [if_pos he]
   rw [hd] at h9 ⊢
   dsimp only at h9 ⊢
   rw [next_nine h0 h9]
   rfl
/-- More bytes behind a drain that ended with an error. -/
theorem drn_err : ∀ (k : Nat) (s : Rc) (x : List (BitVec 8)), s.e = 0 → s.b.length + x.length < 24 * k → (drn k s).2.1 ≠ 9 → (drn k { s with b := s.b ++ x }).1 = (drn k s).1 ∧ (drn k { s with b := s.b ++ x }).2.1 = (drn k s).2.1
 | 0, _, _, _, h, _ => by omega
 | k + 1, s, x, h0, h, h9 => by
  by_cases he : (nextE s).2.2 = 0
  ·have h1 := next_short h0 he
   have h2 := next_e0 h0 (.inl he)
   have hd : drn (k + 1) s = ((nextE s).2.1 :: (drn k (nextE s).1).1, (drn k (nextE s).1).2) := by simp only [drn]; rw [if_neg (by simpa using he)]
   have hp := next_pre h0 x (by omega)
   have hd2 : drn (k + 1) { s with b := s.b ++ x } = ((nextE s).2.1 :: (drn k { (nextE s).1 with b := (nextE s).1.b ++ x }).1, (drn k { (nextE s).1 with b := (nextE s).1.b ++ x }).2) := by
    simp only [drn]
    rw [if_neg (by rw [hp.1]; simpa using he), hp.2 he, hp.1]
   rw [hd] at h9
   dsimp only at h9
   have ih := drn_err k (nextE s).1 x h2.1 (by omega) h9
   rw [hd2, hd]
   dsimp only
   exact ⟨by rw [ih.1], ih.2⟩
  ·have hd : drn (k + 1) s = ([], (nextE s).2.2, (nextE s).1) := by simp only [drn]; rw [if_pos he]
   rw [hd] at h9 ⊢
   dsimp only at h9 ⊢
   have hp := next_pre h0 x h9
   simp only [drn]
   rw [if_pos (by rw [hp.1]; exact he), hp.1]
   exact ⟨rfl, rfl⟩
/-- A drained receiver stays drained. -/
theorem drn_dry (k : Nat) (s : Rc) (hk : 0 < k) (h : (nextE s).2.2 = 9) : (drn k s).1 = [] ∧ (drn k s).2.1 = 9 := by
 cases k with
 | zero => omega
 | succ k => simp only [drn]; rw [if_pos (by omega)]; exact ⟨rfl, h⟩
end Sr
end Go.Proofs.Ytdngfcmakjlamaa


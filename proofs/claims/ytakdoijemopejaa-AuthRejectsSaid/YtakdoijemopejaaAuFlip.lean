/- Layer 38 in plain Lean: a message of which one bit is inverted. No condition. -/
import Derived.Test.YtakdoijemopejaaAuSp
set_option linter.unusedSimpArgs false
set_option linter.unusedVariables false
namespace Go.Proofs.Ytakdoijemopejaa
namespace Au
def flip (b : Bs) (k : Nat) : Bs := b.set (8 + k / 8) (b.getD (8 + k / 8) 0#8 ^^^ (1#8 <<< (k % 8)))
theorem flip_len (b : Bs) (k : Nat) : (flip b k).length = b.length := by simp [flip]
theorem flip_take (b : Bs) (k : Nat) : (flip b k).take 8 = b.take 8 := by
 unfold flip
 rw [List.take_set, List.set_eq_of_length_le (by simp; omega)]
theorem hdOf_take {b c : Bs} (h : b.take 8 = c.take 8) : hdOf b = hdOf c := by
 have e : ∀ (x : Bs) (i j : Nat), i + j ≤ 8 → (x.drop i).take j = ((x.take 8).drop i).take j := by
  intro x i j hij
  rw [List.drop_take, List.take_take, Nat.min_eq_left (by omega)]
 unfold hdOf
 have e0 : b.take 1 = c.take 1 := by have h1 := e b 0 1 (by omega); have h2 := e c 0 1 (by omega); simp only [List.drop_zero] at h1 h2; rw [h1, h2, h]
 rw [e0, e b 1 1 (by omega), e b 2 2 (by omega), e b 4 4 (by omega), h, ← e c 1 1 (by omega), ← e c 2 2 (by omega), ← e c 4 4 (by omega)]
theorem hdOf_flip (b : Bs) (k : Nat) : hdOf (flip b k) = hdOf b := hdOf_take (flip_take b k)
theorem bit_ne (x : BitVec 8) (t : Nat) (h : t < 8) : x ^^^ (1#8 <<< t) ≠ x := by
 intro e
 have h2 : (1#8 <<< t : BitVec 8) = 0#8 := by
  have := congrArg (x ^^^ ·) e
  simpa [← BitVec.xor_assoc] using this
 have h3 : ∀ t : Fin 8, (1#8 <<< t.val : BitVec 8) ≠ 0#8 := by decide
 exact h3 ⟨t, h⟩ h2
theorem prt_flip {b : Bs} (hl : 40 ≤ b.length) {k : Nat} (hk : k < 256) : prt (flip b k) 0 ≠ prt b 0 := by
 intro e
 have hj : k / 8 < 32 := by omega
 have h := congrArg (·[k / 8]?) e
 simp only [prt, flip, Nat.mul_zero, Nat.add_zero, List.getElem?_take, if_pos hj, List.getElem?_drop] at h
 rw [List.getElem?_set_self (by omega), List.getElem?_eq_getElem (by omega)] at h
 have e2 : b.getD (8 + k / 8) 0#8 = b[8 + k / 8] := by simp [show 8 + k / 8 < b.length by omega]
 rw [e2] at h
 exact bit_ne _ _ (Nat.mod_lt _ (by omega)) (Option.some.inj h)
theorem parE_flip {b : Bs} {k : Nat} {kind fl : BitVec 8} {np : Nat} (h : parE b kind fl np = 0) (hf : (hdOf b).f ≠ 0#8) : parE (flip b k) kind fl np = 0 := by
 unfold parE at h ⊢
 rw [flip_len, hdOf_flip]
 by_cases h1 : b.length < 8 + 32 * np
 ·rw [if_pos h1] at h; cases h
 rw [if_neg h1] at h ⊢
 by_cases h2 : 8 + 32 * np < b.length
 ·rw [if_pos h2] at h; cases h
 rw [if_neg h2] at h ⊢
 by_cases h3 : (hdOf b).k ≠ kind ∨ fl.toNat < (hdOf b).f.toNat ∨ 0 < fl.toNat ∧ (hdOf b).f = 0#8 ∧ prt b (np - 1) ≠ z32
 ·rw [if_pos h3] at h; cases h
 rw [if_neg]
 rintro (a | a | ⟨_, a, _⟩)
 ·exact h3 (.inl a)
 ·exact h3 (.inr (.inl a))
 ·exact hf a
attribute [local irreducible] Sha.hmacL
section
variable (p : Pn) (first second : Bs) (seq : BitVec 32) (q : BitVec 16)
theorem parR (h2 : second.length = 32) : parE (mR p first second seq q true) 2#8 1#8 2 = 0 := by
 have hl : ∀ x ∈ [rp p seq q 72#8 first, nn second true], x.length = 32 := by simp [rp_len, nn_len second true h2]
 exact parE_msg _ _ hl rfl (by omega) rfl (by simp [H2]) (by intro h; simp [H2] at h)
theorem parS : parE (mS p second seq q true) 3#8 1#8 1 = 0 := by
 have hl : ∀ x ∈ [if true then rp p seq q 67#8 second else z32], x.length = 32 := by simp [rp_len]
 exact parE_msg _ _ hl rfl (by omega) rfl (by simp [H3]) (by intro h; simp [H3] at h)
theorem check_flip (v : Vs) (hp : v.p = p) (hh : v.h = H1 seq q) (hn : v.n = first) (ho : v.o = true) (h2 : second.length = 32) {k : Nat} (hk : k < 256) : checkS v (flip (mR p first second seq q true) k) = ({ v with o := false }, [], 10) := by
 have hl : ∀ x ∈ [rp p seq q 72#8 first, nn second true], x.length = 32 := by simp [rp_len, nn_len second true h2]
 have hL : (mR p first second seq q true).length = 72 := by unfold mR; rw [msg_len _ _ hl]; rfl
 have e : hdOf (mR p first second seq q true) = H2 seq q true := hdOf_msg _ _
 unfold checkS
 rw [parE_flip (parR p first second seq q h2) (by rw [e]; simp [H2]), if_neg (by simp), if_neg (by simp [ho]), hdOf_flip, e, hp, hh, hn]
 rw [if_neg (by simp [H1, H2]), if_pos]
 intro h
 refine prt_flip (b := mR p first second seq q true) (by omega) hk (h.trans ?_)
 rw [show resp p.py first (H2 seq q true) 72#8 = rp p seq q 72#8 first from resp_eq _ _ rfl rfl]
 exact (prt_msg _ _ hl 0 (by simp)).symm
theorem fin_flip (v : Vs) (hp : v.p = p) (hh : v.h = H2 seq q true) (hn : v.n = second) (ho : v.o = true) {k : Nat} (hk : k < 256) : finS v (flip (mS p second seq q true) k) = ({ v with o := false }, 10) := by
 have hl : ∀ x ∈ [if true then rp p seq q 67#8 second else z32], x.length = 32 := by simp [rp_len]
 have hL : (mS p second seq q true).length = 40 := by unfold mS; rw [msg_len _ _ hl]; rfl
 have e : hdOf (mS p second seq q true) = H3 seq q true := hdOf_msg _ _
 unfold finS
 rw [parE_flip (parS p second seq q) (by rw [e]; simp [H3]), if_neg (by simp), if_neg (by simp [ho]), hdOf_flip, e, hp, hh, hn]
 rw [show ({ H3 seq q true with k := 2#8 } : Hd) = H2 seq q true from rfl, if_neg (by simp), if_pos]
 refine ⟨by simp [H3], fun h => ?_⟩
 refine prt_flip (b := mS p second seq q true) (by omega) hk (h.trans ?_)
 rw [show resp p.py second (H2 seq q true) 67#8 = rp p seq q 67#8 second from resp_eq _ _ rfl rfl]
 exact (prt_msg _ _ hl 0 (by simp)).symm
theorem fin_flip_closed (v : Vs) (ho : v.o = false) (k : Nat) : finS v (flip (mS p second seq q true) k) = (v, 8) := by
 have e : hdOf (mS p second seq q true) = H3 seq q true := hdOf_msg _ _
 unfold finS
 rw [parE_flip (parS p second seq q) (by rw [e]; simp [H3]), if_neg (by simp), if_pos ho]
end
end Au
end Go.Proofs.Ytakdoijemopejaa

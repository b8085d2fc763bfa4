/- Layer 38 in plain Lean: what is read of a message that was made; the steps of an authentication. No condition. -/
import Derived.Test.YtakdoijemopejaaGreatAuObj
set_option linter.unusedSimpArgs false
set_option linter.unusedVariables false
namespace Go.Proofs.YtakdoijemopejaaGreat
namespace Au
theorem getN_lt (bs : Bs) (k : Nat) (h : k ≤ 8) : (getN bs k).toNat < 2 ^ (8 * k) := by
 induction k with
 | zero => simp [getN]
 | succ k ih =>
  have i1 := ih (by omega)
  rw [getN, BitVec.toNat_or]
  refine Nat.or_lt_two_pow (Nat.lt_of_lt_of_le i1 (Nat.pow_le_pow_right (by omega) (by omega))) ?_
  rw [BitVec.toNat_shiftLeft, Nat.shiftLeft_eq]
  have hb : ((bs.getD k 0#8).setWidth 64).toNat < 256 := by
   rw [BitVec.toNat_setWidth]; have := (bs.getD k 0#8).isLt; omega
  refine Nat.lt_of_le_of_lt (Nat.mod_le _ _) ?_
  rw [show 8 * (k + 1) = 8 + 8 * k by omega, Nat.pow_add]
  exact Nat.mul_lt_mul_of_pos_right hb (Nat.two_pow_pos _)
theorem getN_succ (bs : Bs) (k : Nat) (h : k < 8) : (getN bs (k + 1)).toNat = (bs.getD k 0#8).toNat * 2 ^ (8 * k) + (getN bs k).toNat := by
 have i1 := getN_lt bs k (by omega)
 have hb := (bs.getD k 0#8).isLt
 have hb2 : ((bs.getD k 0#8).setWidth 64).toNat = (bs.getD k 0#8).toNat := by rw [BitVec.toNat_setWidth]; omega
 have h3 : (bs.getD k 0#8).toNat * 2 ^ (8 * k) < 2 ^ 64 := by
  have : (bs.getD k 0#8).toNat * 2 ^ (8 * k) < 256 * 2 ^ (8 * k) := Nat.mul_lt_mul_of_pos_right hb (Nat.two_pow_pos _)
  have h4 : 256 * 2 ^ (8 * k) = 2 ^ (8 + 8 * k) := by rw [Nat.pow_add]
  have h5 : 2 ^ (8 + 8 * k) ≤ 2 ^ 64 := Nat.pow_le_pow_right (by omega) (by omega)
  omega
 rw [getN, BitVec.toNat_or, BitVec.toNat_shiftLeft, hb2, Nat.shiftLeft_eq, Nat.mod_eq_of_lt h3, Nat.or_comm, ← Nat.shiftLeft_eq, ← Nat.shiftLeft_add_eq_or_of_lt i1]
theorem getN_putL (v : BitVec 64) (n k : Nat) (h : k ≤ n) (h8 : k ≤ 8) : (getN (putL v n) k).toNat = v.toNat % 2 ^ (8 * k) := by
 induction k with
 | zero => simp [getN, Nat.mod_one]
 | succ k ih =>
  have e : (putL v n).getD k 0#8 = (v >>> (8 * k)).setWidth 8 := by simp [putL, show k < n by omega]
  rw [getN_succ _ _ (by omega), ih (by omega) (by omega), e, BitVec.toNat_setWidth, BitVec.toNat_ushiftRight, Nat.shiftRight_eq_div_pow, show 8 * (k + 1) = 8 * k + 8 by omega, Nat.pow_add, Nat.mod_mul]
  rw [Nat.mul_comm, Nat.add_comm]
theorem getL_putL (v : BitVec 64) (n : Nat) (h8 : n ≤ 8) : (getL (putL v n)).toNat = v.toNat % 2 ^ (8 * n) := by
 unfold getL; rw [putL_length]; exact getN_putL v n n (Nat.le_refl _) h8
theorem getL_inj {bs cs : Bs} (hl : bs.length = cs.length) (h8 : bs.length ≤ 8) (h : getL bs = getL cs) : bs = cs := by
 have key : ∀ k, k ≤ 8 → getN bs k = getN cs k → ∀ i, i < k → bs.getD i 0#8 = cs.getD i 0#8 := by
  intro k
  induction k with
  | zero => intro _ _ i hi; omega
  | succ k ih =>
   intro hk he i hi
   have h1 := getN_succ bs k (by omega)
   have h2 := getN_succ cs k (by omega)
   rw [he, h2] at h1
   have l1 := getN_lt bs k (by omega)
   have l2 := getN_lt cs k (by omega)
   have hp : 0 < 2 ^ (8 * k) := Nat.two_pow_pos _
   have dv : ∀ c a : Nat, a < 2 ^ (8 * k) → (c * 2 ^ (8 * k) + a) / 2 ^ (8 * k) = c := by
    intro c a ha
    rw [Nat.mul_comm, Nat.mul_add_div hp, Nat.div_eq_of_lt ha, Nat.add_zero]
   have e1 : (cs.getD k 0#8).toNat = (bs.getD k 0#8).toNat := by
    rw [← dv (cs.getD k 0#8).toNat _ l2, h1, dv _ _ l1]
   rcases Nat.lt_or_ge i k with h3 | h3
   ·refine ih (by omega) (BitVec.eq_of_toNat_eq ?_) i h3
    rw [e1] at h1; omega
   ·obtain rfl : i = k := by omega
    exact BitVec.eq_of_toNat_eq e1.symm
 apply List.ext_getElem hl
 intro i h1 h2
 have := key bs.length h8 (by unfold getL at h; rw [hl] at h ⊢; exact h) i h1
 simpa [h1, h2] using this
theorem take_put (v : BitVec 64) (n : Nat) (r : Bs) : (putL v n ++ r).take n = putL v n := List.take_left' (putL_length v n)
theorem drop_put (v : BitVec 64) (n : Nat) (r : Bs) : (putL v n ++ r).drop n = r := List.drop_left' (putL_length v n)
theorem hdOf_msg (h : Hd) (ps : List Bs) : hdOf (msg h ps) = h := by
 obtain ⟨k, f, q, s⟩ := h
 have e : msg ⟨k, f, q, s⟩ ps = putL (k.setWidth 64) 1 ++ (putL (f.setWidth 64) 1 ++ (putL (q.setWidth 64) 2 ++ (putL (s.setWidth 64) 4 ++ ps.flatten))) := by simp [msg, headL]
 have d1 : (msg ⟨k, f, q, s⟩ ps).drop 1 = putL (f.setWidth 64) 1 ++ (putL (q.setWidth 64) 2 ++ (putL (s.setWidth 64) 4 ++ ps.flatten)) := by rw [e, drop_put]
 have d2 : (msg ⟨k, f, q, s⟩ ps).drop 2 = putL (q.setWidth 64) 2 ++ (putL (s.setWidth 64) 4 ++ ps.flatten) := by rw [show (2 : Nat) = 1 + 1 from rfl, ← List.drop_drop, d1, drop_put]
 have d4 : (msg ⟨k, f, q, s⟩ ps).drop 4 = putL (s.setWidth 64) 4 ++ ps.flatten := by rw [show (4 : Nat) = 2 + 2 from rfl, ← List.drop_drop, d2, drop_put]
 unfold hdOf
 rw [d1, d2, d4, take_put, take_put, take_put, e, take_put]
 congr 1
 all_goals
  apply BitVec.eq_of_toNat_eq
  rw [BitVec.toNat_setWidth, getL_putL _ _ (by omega), BitVec.toNat_setWidth]
 ·have := k.isLt; omega
 ·have := f.isLt; omega
 ·have := q.isLt; omega
 ·have := s.isLt; omega
theorem prt_msg (h : Hd) (ps : List Bs) (hp : ∀ p ∈ ps, p.length = 32) (i : Nat) (hi : i < ps.length) : prt (msg h ps) i = ps[i] := by
 unfold prt msg
 rw [show 8 + 32 * i = (headL h).length + i * 32 by rw [headL_len]; omega, ← List.drop_drop, List.drop_left, flat_row ps hp i hi]
theorem parE_msg (h : Hd) (ps : List Bs) (hp : ∀ p ∈ ps, p.length = 32) {kind fl : BitVec 8} {np : Nat} (hn : np = ps.length) (h0 : 0 < np) (hk : h.k = kind) (hf : h.f.toNat ≤ fl.toNat) (hz : h.f = 0#8 → 0 < fl.toNat → ∀ l, ps.getLast? = some l → l = z32) : parE (msg h ps) kind fl np = 0 := by
 subst hn
 unfold parE
 rw [msg_len h ps hp, if_neg (by omega), if_neg (by omega), if_neg]
 rw [hdOf_msg, prt_msg h ps hp (ps.length - 1) (by omega)]
 rintro (h1 | h1 | ⟨h1, h2, h3⟩)
 ·exact h1 hk
 ·omega
 ·refine h3 (hz h2 h1 _ ?_)
  rw [List.getLast?_eq_getElem?]
  simp [show ps.length - 1 < ps.length by omega]
attribute [local irreducible] Sha.hmacL
theorem resp_eq {p : Py} {n : Bs} {r : BitVec 8} (h h' : Hd) (hs : h.s = h'.s) (hq : h.q = h'.q) : resp p n h r = resp p n h' r := by unfold resp respM; rw [hs, hq]
section
variable (p : Pn) (first second : Bs) (seq : BitVec 32) (q : BitVec 16) (both : Bool)
def H1 : Hd := { k := 1#8, q := q, s := seq }
def H2 : Hd := { k := 2#8, f := if both then 1#8 else 0#8, q := q, s := seq }
def H3 : Hd := { k := 3#8, f := if both then 1#8 else 0#8, q := q, s := seq }
def nn : Bs := if both then second else z32
def rp (r : BitVec 8) (n : Bs) : Bs := resp p.py n (H1 seq q) r
def mC : Bs := msg (H1 seq q) [first]
def mR : Bs := msg (H2 seq q both) [rp p seq q 72#8 first, nn second both]
def mS : Bs := msg (H3 seq q both) [if both then rp p seq q 67#8 second else z32]
def v1 (v : Vs) : Vs := { v with h := H1 seq q, n := first, o := true, d := false }
def q1 (v : Vs) : Vs := { v with h := H2 seq q both, n := nn second both, o := true, d := false }
theorem rp_len (r : BitVec 8) (n : Bs) : (rp p seq q r n).length = 32 := by unfold rp resp; simp [Sha.hmacL, Sha.shaL_length]
theorem nn_len (h2 : second.length = 32) : (nn second both).length = 32 := by unfold nn; split; exact h2; rfl
theorem chal_ok (v : Vs) (h : v.h.s.toNat < seq.toNat) : chalS v first seq q = (v1 first seq q v, mC first seq q, 0) := by
 unfold chalS; rw [if_neg (by omega)]; rfl
theorem chal_no (v : Vs) (h : seq.toNat ≤ v.h.s.toNat) : chalS v first seq q = (v, [], 2) := by
 unfold chalS; rw [if_pos h]
theorem ans_ok (v : Vs) (hv : v.p = p) (h1 : first.length = 32) : ansS v (mC first seq q) both second = (q1 second seq q both v, mR p first second seq q both, 0) := by
 have hl : ∀ x ∈ [first], x.length = 32 := by simpa using h1
 subst hv
 unfold ansS
 rw [show parE (mC first seq q) 1#8 0#8 1 = 0 from parE_msg _ _ hl rfl (by omega) rfl (by simp [H1]) (by intro _ h; simp at h)]
 rw [if_neg (by simp), show hdOf (mC first seq q) = H1 seq q from hdOf_msg _ _, show prt (mC first seq q) 0 = first from prt_msg _ _ hl 0 (by simp)]
 rw [show ({ H1 seq q with k := 2#8, f := if both = true then 1#8 else (H1 seq q).f } : Hd) = H2 seq q both from rfl, show resp v.p.py first (H2 seq q both) 72#8 = rp v.p seq q 72#8 first from resp_eq _ _ rfl rfl]
 rfl
theorem check_ok (v : Vs) (hp : v.p = p) (hh : v.h = H1 seq q) (hn : v.n = first) (ho : v.o = true) (h1 : first.length = 32) (h2 : second.length = 32) : checkS v (mR p first second seq q both) = ({ v with o := false, d := true }, mS p second seq q both, 0) := by
 have hl : ∀ x ∈ [rp p seq q 72#8 first, nn second both], x.length = 32 := by simp [rp_len, nn_len second both h2]
 unfold checkS
 rw [show parE (mR p first second seq q both) 2#8 1#8 2 = 0 from parE_msg _ _ hl rfl (by omega) rfl (by cases both <;> simp [H2]) (by intro h _ l hl; simp at hl; rw [← hl]; cases both; rfl; simp [H2] at h)]
 rw [if_neg (by simp), if_neg (by simp [ho]), show hdOf (mR p first second seq q both) = H2 seq q both from hdOf_msg _ _, show prt (mR p first second seq q both) 0 = rp p seq q 72#8 first from prt_msg _ _ hl 0 (by simp), show prt (mR p first second seq q both) 1 = nn second both from prt_msg _ _ hl 1 (by simp), hp, hh, hn]
 rw [show resp p.py first (H2 seq q both) 72#8 = rp p seq q 72#8 first from resp_eq _ _ rfl rfl, show resp p.py (nn second both) (H2 seq q both) 67#8 = rp p seq q 67#8 (nn second both) from resp_eq _ _ rfl rfl, if_neg (by simp [H1, H2]), if_neg (by simp)]
 cases both <;> simp [mS, H2, H3, nn]
theorem check_closed (v : Vs) (ho : v.o = false) (h2 : second.length = 32) : checkS v (mR p first second seq q both) = (v, [], 8) := by
 have hl : ∀ x ∈ [rp p seq q 72#8 first, nn second both], x.length = 32 := by simp [rp_len, nn_len second both h2]
 unfold checkS
 rw [show parE (mR p first second seq q both) 2#8 1#8 2 = 0 from parE_msg _ _ hl rfl (by omega) rfl (by cases both <;> simp [H2]) (by intro h _ l hl; simp at hl; rw [← hl]; cases both; rfl; simp [H2] at h)]
 rw [if_neg (by simp), if_pos ho]
theorem check_other (v : Vs) (ho : v.o = true) (hs : seq ≠ v.h.s) (h2 : second.length = 32) : checkS v (mR p first second seq q both) = ({ v with o := false }, [], 3) := by
 have hl : ∀ x ∈ [rp p seq q 72#8 first, nn second both], x.length = 32 := by simp [rp_len, nn_len second both h2]
 unfold checkS
 rw [show parE (mR p first second seq q both) 2#8 1#8 2 = 0 from parE_msg _ _ hl rfl (by omega) rfl (by cases both <;> simp [H2]) (by intro h _ l hl; simp at hl; rw [← hl]; cases both; rfl; simp [H2] at h)]
 rw [if_neg (by simp), if_neg (by simp [ho]), show hdOf (mR p first second seq q both) = H2 seq q both from hdOf_msg _ _, if_pos (.inr hs)]
theorem fin_ok (v : Vs) (hp : v.p = p) (hh : v.h = H2 seq q both) (hn : v.n = nn second both) (ho : v.o = true) (h2 : second.length = 32) : finS v (mS p second seq q both) = ({ v with o := false, d := true }, 0) := by
 have hl : ∀ x ∈ [if both then rp p seq q 67#8 second else z32], x.length = 32 := by cases both; (intro x hx; simp at hx; rw [hx]; rfl); simp [rp_len]
 unfold finS
 rw [show parE (mS p second seq q both) 3#8 1#8 1 = 0 from parE_msg _ _ hl rfl (by omega) rfl (by cases both <;> simp [H3]) (by intro h _ l hl; cases both; simp at hl; exact hl.symm; simp [H3] at h)]
 rw [if_neg (by simp), if_neg (by simp [ho]), show hdOf (mS p second seq q both) = H3 seq q both from hdOf_msg _ _, show prt (mS p second seq q both) 0 = (if both then rp p seq q 67#8 second else z32) from prt_msg _ _ hl 0 (by simp), hp, hh, hn]
 rw [show ({ H3 seq q both with k := 2#8 } : Hd) = H2 seq q both from rfl, show resp p.py (nn second both) (H2 seq q both) 67#8 = rp p seq q 67#8 (nn second both) from resp_eq _ _ rfl rfl, if_neg (by simp), if_neg]
 rintro ⟨h1, h3⟩
 cases both
 ·simp [H3] at h1
 ·simp [nn] at h3
theorem fin_closed (v : Vs) (ho : v.o = false) : finS v (mS p second seq q both) = (v, 8) := by
 have hl : ∀ x ∈ [if both then rp p seq q 67#8 second else z32], x.length = 32 := by cases both; (intro x hx; simp at hx; rw [hx]; rfl); simp [rp_len]
 unfold finS
 rw [show parE (mS p second seq q both) 3#8 1#8 1 = 0 from parE_msg _ _ hl rfl (by omega) rfl (by cases both <;> simp [H3]) (by intro h _ l hl; cases both; simp at hl; exact hl.symm; simp [H3] at h)]
 rw [if_neg (by simp), if_pos ho]
end
end Au
end Go.Proofs.YtakdoijemopejaaGreat

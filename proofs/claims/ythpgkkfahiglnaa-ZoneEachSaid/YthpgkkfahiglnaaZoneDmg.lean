/- Layer 28: Damage, PowerLoss. No condition but Go's own limits. Printed by wip/gen_zonedmg.py. -/
import Derived.Test.YthpgkkfahiglnaaZoneMeth
set_option maxRecDepth 100000
set_option maxHeartbeats 4000000
set_option linter.unusedSimpArgs false
set_option linter.unusedVariables false
namespace Go.Proofs.Ythpgkkfahiglnaa
open Go Go.RowKit
namespace Zo
open Se (St At Reads Cell)
open Li (Rd Blk Fr)
variable {w0 w : World} {X : List Nat} {L : List At}
attribute [local irreducible] Calls
attribute [local go_sem] eql_nil
theorem damage_no {g cc : Nat} {z : Zs} {a : Addr} (hs : St w0 X (pZ g z (some a) cc :: L) w) (ho : OkZ z) {i : Int} (hi : i < 0 ∨ z.l.length ≤ i) (off : Bool) :
  Calls Try.prog 17 #[.pointer (some ⟨g, 0, none⟩), .int .i64 i, .bool off] w fun e' w' => e' = .returned (iv 3) ∧ St w0 X (pZ g z (some a) cc :: L) w' := by
 have CK : Hid (∀ (w : World), St w0 X (pZ g z (some a) cc :: L) w → Calls Try.prog 43 #[.pointer (some ⟨g, 0, none⟩), .int .i64 i] w fun e w' => e = .returned (.int .i64 3) ∧ St w0 X (pZ g z (some a) cc :: L) w') := Lib.hid (fun w hs => known_st (e := 3) hs ho i (by rw [if_pos hi]))
 clear ho hi
 go_enter Try.func17, Try.ntmps17
 go_wp2_with (first | (go_at_call 43; refine Calls.mono (CK.out _ hs) ?_; clear hs; rintro e w ⟨rfl, hs⟩))
 go_ret
 exact ⟨rfl, hs⟩
theorem damage_at {g cc : Nat} {z : Zs} {a : Addr} {r : Option Nat} (hs : St w0 X (pZ g z (some a) cc :: pL r (some a) cc z :: L) w) (ho : OkZ z) {i : Nat} (hi : i < z.l.length) (off : Bool) :
  Calls Try.prog 17 #[.pointer (some ⟨g, 0, none⟩), .int .i64 (i : Int), .bool off] w fun e' w' => e' = .returned (iv 0) ∧ St w0 X (pZ g (damageE z i off).1 (some a) cc :: pL r (some a) cc (damageE z i off).1 :: L) w' := by
 obtain ⟨ga, oa, ha, hr⟩ := hs.own_at 1 rfl (by omega)
 obtain rfl : a = ⟨ga, oa, none⟩ := by simpa using ha
 subst hr
 clear ha
 have CK : Hid (∀ (w : World), St w0 X (pZ g z (some ⟨ga, oa, none⟩) cc :: pL (some ga) (some ⟨ga, oa, none⟩) cc z :: L) w → Calls Try.prog 43 #[.pointer (some ⟨g, 0, none⟩), .int .i64 (i : Int)] w fun e w' => e = .returned (.int .i64 0) ∧ St w0 X (pZ g z (some ⟨ga, oa, none⟩) cc :: pL (some ga) (some ⟨ga, oa, none⟩) cc z :: L) w') := Lib.hid (fun w hs => known_st (e := 0) hs ho i (by rw [if_neg (by omega)]))
 obtain ⟨RL, hRL⟩ : ∃ RL, RL = zcl z (some ⟨ga, oa, none⟩) cc := ⟨_, rfl⟩
 obtain ⟨k, hk⟩ : ∃ n, n = z.l.length := ⟨_, rfl⟩
 have hk1 : k ≤ 4096 := by rw [hk, ho.1]; exact ho.2.2.1
 obtain ⟨l, hl⟩ : ∃ l, l = z.l := ⟨_, rfl⟩
 obtain ⟨x, hx⟩ : ∃ x, x = l.getD i dz := ⟨_, rfl⟩
 obtain ⟨st, hst⟩ : ∃ p, p = x.st := ⟨_, rfl⟩
 have R5 := Lib.hid (show RL[5]? = some (.slice (some ⟨ga, oa, none⟩) k cc) by rw [hRL, hk]; rfl)
 have hil : i < l.length := by rw [hl]; exact hi
 have hxg : x = l[i] := by rw [hx]; exact getD_get hil
 have e1 : pZ g z (some ⟨ga, oa, none⟩) cc = .blk g 71 RL := by rw [hRL]
 have e2 : pL (some ga) (some ⟨ga, oa, none⟩) cc z = .own 3 (some ga) (some ⟨ga, oa, none⟩) k cc (ocs l) := by unfold pL; rw [← hk, ← hl]
 have CS : Hid (Cell (.blk g 71 RL :: .own 3 (some ga) (some ⟨ga, oa, none⟩) k cc (ocs l) :: L) ga (oa + i * 3) (iv st)) := Lib.hid (by
  have h := ocs_at l i hil 0 (by decide)
  rw [Nat.add_zero] at h
  exact (Reads.own 1 rfl : Reads (.blk g 71 RL :: .own 3 (some ga) (some ⟨ga, oa, none⟩) k cc (ocs l) :: L) _ _).cell (i * 3) (v := iv st) (by rw [h, hst, hxg]; rfl))
 have LE0 := Lib.hid (show i * 3 < (ocs l).length by rw [ocs_len]; omega)
 have FIN : Hid (∀ (s : Nat), (if off = true ∨ st = 13 ∨ st = 15 then 15 else 13) = s → ∀ (w : World), St w0 X (.blk g 71 RL :: .own 3 (some ga) (some ⟨ga, oa, none⟩) k cc ((ocs l).set (i * 3) (iv s)) :: L) w → St w0 X (pZ g (damageE z i off).1 (some ⟨ga, oa, none⟩) cc :: pL (some ga) (some ⟨ga, oa, none⟩) cc (damageE z i off).1 :: L) w) := Lib.hid (fun s he w hs => by
  have hd : (damageE z i off).1 = putS z i { z.l.getD i dz with st := s } := by
   unfold damageE
   rw [if_neg (by omega)]
   rw [← he, hst, hx, hl]
   rfl
  rw [hd, pZ_putS, pL_putS hi, e1, ← hk, ← hl]
  exact hs)
 have hik : (i : Int) < (k : Int) := by omega
 rw [e1, e2] at hs CK
 clear hRL hk hl hx hst hxg hil e1 e2 ho hi
 cases off with
 | true =>
  have HF := Lib.hid (FIN.out 15 (by simp))
  clear FIN
  go_enter Try.func17, Try.ntmps17
  go_wp2_with (first | ((with_reducible refine Se.isL (o := ⟨some 18, _, _, _, _, _⟩) ?_); (refine Se.toL rfl (Se.ld (o := ⟨some 18, _, _, _, _, _⟩) hs rfl rfl (Cell.blk 0 rfl R5.out) (by kernel_rfl) ?_))) | ((with_reducible refine Se.isL (o := ⟨none, _, _, _, _, _⟩) ?_); ((first | refine Se.toL rfl (Se.soo 1 (v := .int _ _) hs rfl rfl rfl rfl rfl (by kernel_rfl) (LE0.out) ?_) | refine Se.toL rfl (Se.soo 1 (v := .bool _) hs rfl rfl rfl rfl rfl (by kernel_rfl) (LE0.out) ?_) | refine Se.toL rfl (Se.soo 1 (v := .slice _ _ _) hs rfl rfl rfl rfl rfl (by kernel_rfl) (LE0.out) ?_) | refine Se.toL rfl (Se.soo 1 (v := .pointer _) hs rfl rfl rfl rfl rfl (by kernel_rfl) (LE0.out) ?_) | refine Se.toL rfl (Se.soo 1 (v := .string _) hs rfl rfl rfl rfl rfl (by kernel_rfl) (LE0.out) ?_) | refine Se.toL rfl (Se.soo 1 (v := .map _) hs rfl rfl rfl rfl rfl (by kernel_rfl) (LE0.out) ?_) | refine Se.toL rfl (Se.soo 1 (v := .func _ _ _) hs rfl rfl rfl rfl rfl (by kernel_rfl) (LE0.out) ?_) | refine Se.toL rfl (Se.soo 1 (v := .nilFunc) hs rfl rfl rfl rfl rfl (by kernel_rfl) (LE0.out) ?_)); clear hs; intro w hs; try simp only [List.cons_append, List.nil_append, List.set_cons_zero, List.set_cons_succ] at hs)) | (go_at_call 43; refine Calls.mono (CK.out _ hs) ?_; clear hs; rintro e w ⟨rfl, hs⟩))
  go_ret
  exact ⟨rfl, HF.out _ hs⟩
 | false =>
  by_cases h1 : st = 13
  ·have HF := Lib.hid (FIN.out 15 (by simp [h1]))
   have d1 : decide ((st : Int) = 13) = true := by simp; omega
   have d2 : ((st : Int) == 13) = true := by simp; omega
   clear FIN h1
   go_enter Try.func17, Try.ntmps17
   go_wp2_with (first | ((with_reducible refine Se.isL (o := ⟨some 18, _, _, _, _, _⟩) ?_); (refine Se.toL rfl (Se.ld (o := ⟨some 18, _, _, _, _, _⟩) hs rfl rfl (Cell.blk 0 rfl R5.out) (by kernel_rfl) ?_))) | ((with_reducible refine Se.isL (o := ⟨some 26, _, _, _, _, _⟩) ?_); (refine Se.toL rfl (Se.ld (o := ⟨some 26, _, _, _, _, _⟩) hs rfl rfl (CS.out) (by kernel_rfl) ?_))) | ((with_reducible refine Se.isL (o := ⟨none, _, _, _, _, _⟩) ?_); ((first | refine Se.toL rfl (Se.soo 1 (v := .int _ _) hs rfl rfl rfl rfl rfl (by kernel_rfl) (LE0.out) ?_) | refine Se.toL rfl (Se.soo 1 (v := .bool _) hs rfl rfl rfl rfl rfl (by kernel_rfl) (LE0.out) ?_) | refine Se.toL rfl (Se.soo 1 (v := .slice _ _ _) hs rfl rfl rfl rfl rfl (by kernel_rfl) (LE0.out) ?_) | refine Se.toL rfl (Se.soo 1 (v := .pointer _) hs rfl rfl rfl rfl rfl (by kernel_rfl) (LE0.out) ?_) | refine Se.toL rfl (Se.soo 1 (v := .string _) hs rfl rfl rfl rfl rfl (by kernel_rfl) (LE0.out) ?_) | refine Se.toL rfl (Se.soo 1 (v := .map _) hs rfl rfl rfl rfl rfl (by kernel_rfl) (LE0.out) ?_) | refine Se.toL rfl (Se.soo 1 (v := .func _ _ _) hs rfl rfl rfl rfl rfl (by kernel_rfl) (LE0.out) ?_) | refine Se.toL rfl (Se.soo 1 (v := .nilFunc) hs rfl rfl rfl rfl rfl (by kernel_rfl) (LE0.out) ?_)); clear hs; intro w hs; try simp only [List.cons_append, List.nil_append, List.set_cons_zero, List.set_cons_succ] at hs)) | (go_at_call 43; refine Calls.mono (CK.out _ hs) ?_; clear hs; rintro e w ⟨rfl, hs⟩))
   go_ret
   exact ⟨rfl, HF.out _ hs⟩
  have d1 : decide ((st : Int) = 13) = false := by simp; omega
  have d2 : ((st : Int) == 13) = false := by simp; omega
  by_cases h2 : st = 15
  ·have HF := Lib.hid (FIN.out 15 (by simp [h2]))
   have d3 : decide ((st : Int) = 15) = true := by simp; omega
   have d4 : ((st : Int) == 15) = true := by simp; omega
   clear FIN h1 h2
   go_enter Try.func17, Try.ntmps17
   go_wp2_with (first | ((with_reducible refine Se.isL (o := ⟨some 18, _, _, _, _, _⟩) ?_); (refine Se.toL rfl (Se.ld (o := ⟨some 18, _, _, _, _, _⟩) hs rfl rfl (Cell.blk 0 rfl R5.out) (by kernel_rfl) ?_))) | ((with_reducible refine Se.isL (o := ⟨some 26, _, _, _, _, _⟩) ?_); (refine Se.toL rfl (Se.ld (o := ⟨some 26, _, _, _, _, _⟩) hs rfl rfl (CS.out) (by kernel_rfl) ?_))) | ((with_reducible refine Se.isL (o := ⟨some 33, _, _, _, _, _⟩) ?_); (refine Se.toL rfl (Se.ld (o := ⟨some 33, _, _, _, _, _⟩) hs rfl rfl (CS.out) (by kernel_rfl) ?_))) | ((with_reducible refine Se.isL (o := ⟨none, _, _, _, _, _⟩) ?_); ((first | refine Se.toL rfl (Se.soo 1 (v := .int _ _) hs rfl rfl rfl rfl rfl (by kernel_rfl) (LE0.out) ?_) | refine Se.toL rfl (Se.soo 1 (v := .bool _) hs rfl rfl rfl rfl rfl (by kernel_rfl) (LE0.out) ?_) | refine Se.toL rfl (Se.soo 1 (v := .slice _ _ _) hs rfl rfl rfl rfl rfl (by kernel_rfl) (LE0.out) ?_) | refine Se.toL rfl (Se.soo 1 (v := .pointer _) hs rfl rfl rfl rfl rfl (by kernel_rfl) (LE0.out) ?_) | refine Se.toL rfl (Se.soo 1 (v := .string _) hs rfl rfl rfl rfl rfl (by kernel_rfl) (LE0.out) ?_) | refine Se.toL rfl (Se.soo 1 (v := .map _) hs rfl rfl rfl rfl rfl (by kernel_rfl) (LE0.out) ?_) | refine Se.toL rfl (Se.soo 1 (v := .func _ _ _) hs rfl rfl rfl rfl rfl (by kernel_rfl) (LE0.out) ?_) | refine Se.toL rfl (Se.soo 1 (v := .nilFunc) hs rfl rfl rfl rfl rfl (by kernel_rfl) (LE0.out) ?_)); clear hs; intro w hs; try simp only [List.cons_append, List.nil_append, List.set_cons_zero, List.set_cons_succ] at hs)) | (go_at_call 43; refine Calls.mono (CK.out _ hs) ?_; clear hs; rintro e w ⟨rfl, hs⟩))
   go_ret
   exact ⟨rfl, HF.out _ hs⟩
  ·have HF := Lib.hid (FIN.out 13 (by simp [h1, h2]))
   have d3 : decide ((st : Int) = 15) = false := by simp; omega
   have d4 : ((st : Int) == 15) = false := by simp; omega
   clear FIN h1 h2
   go_enter Try.func17, Try.ntmps17
   go_wp2_with (first | ((with_reducible refine Se.isL (o := ⟨some 18, _, _, _, _, _⟩) ?_); (refine Se.toL rfl (Se.ld (o := ⟨some 18, _, _, _, _, _⟩) hs rfl rfl (Cell.blk 0 rfl R5.out) (by kernel_rfl) ?_))) | ((with_reducible refine Se.isL (o := ⟨some 26, _, _, _, _, _⟩) ?_); (refine Se.toL rfl (Se.ld (o := ⟨some 26, _, _, _, _, _⟩) hs rfl rfl (CS.out) (by kernel_rfl) ?_))) | ((with_reducible refine Se.isL (o := ⟨some 33, _, _, _, _, _⟩) ?_); (refine Se.toL rfl (Se.ld (o := ⟨some 33, _, _, _, _, _⟩) hs rfl rfl (CS.out) (by kernel_rfl) ?_))) | ((with_reducible refine Se.isL (o := ⟨none, _, _, _, _, _⟩) ?_); ((first | refine Se.toL rfl (Se.soo 1 (v := .int _ _) hs rfl rfl rfl rfl rfl (by kernel_rfl) (LE0.out) ?_) | refine Se.toL rfl (Se.soo 1 (v := .bool _) hs rfl rfl rfl rfl rfl (by kernel_rfl) (LE0.out) ?_) | refine Se.toL rfl (Se.soo 1 (v := .slice _ _ _) hs rfl rfl rfl rfl rfl (by kernel_rfl) (LE0.out) ?_) | refine Se.toL rfl (Se.soo 1 (v := .pointer _) hs rfl rfl rfl rfl rfl (by kernel_rfl) (LE0.out) ?_) | refine Se.toL rfl (Se.soo 1 (v := .string _) hs rfl rfl rfl rfl rfl (by kernel_rfl) (LE0.out) ?_) | refine Se.toL rfl (Se.soo 1 (v := .map _) hs rfl rfl rfl rfl rfl (by kernel_rfl) (LE0.out) ?_) | refine Se.toL rfl (Se.soo 1 (v := .func _ _ _) hs rfl rfl rfl rfl rfl (by kernel_rfl) (LE0.out) ?_) | refine Se.toL rfl (Se.soo 1 (v := .nilFunc) hs rfl rfl rfl rfl rfl (by kernel_rfl) (LE0.out) ?_)); clear hs; intro w hs; try simp only [List.cons_append, List.nil_append, List.set_cons_zero, List.set_cons_succ] at hs)) | (go_at_call 43; refine Calls.mono (CK.out _ hs) ?_; clear hs; rintro e w ⟨rfl, hs⟩))
   go_ret
   exact ⟨rfl, HF.out _ hs⟩
def pwL (l : List Zn) (t : List Nat) : List Zn := (List.range l.length).map fun i => if i ∈ t then closeZ (l.getD i dz) else l.getD i dz
theorem pwL_len (l : List Zn) (t : List Nat) : (pwL l t).length = l.length := by unfold pwL; rw [List.length_map, List.length_range]
theorem pwL_at {l : List Zn} {t : List Nat} {i : Nat} (h : i < l.length) : (pwL l t).getD i dz = if i ∈ t then closeZ (l.getD i dz) else l.getD i dz := by
 unfold pwL
 rw [List.getD_eq_getElem?_getD, List.getElem?_map, List.getElem?_range h]
 rfl
theorem pwL_nil (l : List Zn) : pwL l [] = l := by
 apply List.ext_getElem (pwL_len l [])
 intro i h1 h2
 rw [← getD_get h1, pwL_at h2, if_neg (by simp), getD_get h2]
theorem pwL_snoc {l : List Zn} {t : List Nat} {i : Nat} (h : i < l.length) (hi : i ∉ t) : pwL l (t ++ [i]) = (pwL l t).set i (closeZ ((pwL l t).getD i dz)) := by
 apply List.ext_getElem (by rw [List.length_set, pwL_len, pwL_len])
 intro j h1 h2
 have hj : j < l.length := by rw [pwL_len] at h1; exact h1
 rw [← getD_get h1, pwL_at hj, List.getElem_set]
 by_cases he : i = j
 ·subst he
  rw [if_pos (by simp), if_pos rfl, pwL_at hj, if_neg hi]
 ·rw [if_neg he]
  have h3 : j < (pwL l t).length := by rw [pwL_len]; exact hj
  rw [← getD_get h3, pwL_at hj]
  have : (j ∈ t ++ [i]) ↔ j ∈ t := by
   simp only [List.mem_append, List.mem_singleton]
   constructor
   ·rintro (h | rfl)
    ·exact h
    ·exact absurd rfl he
   ·exact Or.inl
  simp only [this]
theorem numsT_mem {p : Zn → Bool} {l : List Zn} {n i : Nat} : i ∈ numsT p l n ↔ i < n ∧ p (l.getD i dz) = true := by
 unfold numsT
 rw [List.mem_filter, List.mem_range]
theorem numsT_nd (p : Zn → Bool) (l : List Zn) (n : Nat) : (numsT p l n).Nodup := List.Pairwise.filter _ List.nodup_range
theorem pwL_all (l : List Zn) : pwL l (numsT (fun x => opn x.st) l l.length) = l.map fun x => if opn x.st = true then closeZ x else x := by
 apply List.ext_getElem (by rw [List.length_map, pwL_len])
 intro i h1 h2
 have hi : i < l.length := by rw [pwL_len] at h1; exact h1
 rw [← getD_get h1, pwL_at hi, List.getElem_map]
 simp only [numsT_mem, hi, true_and, getD_get hi]
theorem nodup_take {t : List Nat} (h : t.Nodup) {j : Nat} (hj : j < t.length) : t[j] ∉ t.take j := by
 intro hm
 obtain ⟨i, hi, he⟩ := List.getElem_of_mem hm
 rw [List.getElem_take] at he
 rw [List.length_take] at hi
 exact (List.pairwise_iff_getElem.1 h) i j (by omega) hj (by omega) he
theorem power_st {g cc : Nat} {z : Zs} {a : Addr} {r : Option Nat} (hs : St w0 X (pZ g z (some a) cc :: pL r (some a) cc z :: L) w) (ho : OkZ z) :
  Calls Try.prog 29 #[.pointer (some ⟨g, 0, none⟩)] w fun e' w' => e' = .returned (iv 0) ∧ St w0 X (pZ g (powerE z) (some a) cc :: pL r (some a) cc (powerE z) :: L) w' := by
 obtain ⟨ga, oa, ha, hr⟩ := hs.own_at 1 rfl (by have := ho.1; have := ho.2.1; omega)
 obtain rfl : a = ⟨ga, oa, none⟩ := by simpa using ha
 subst hr
 clear ha
 have CN : Hid (∀ (w : World), St w0 X (pZ g z (some ⟨ga, oa, none⟩) cc :: pL (some ga) (some ⟨ga, oa, none⟩) cc z :: L) w → Calls Try.prog 42 #[.pointer (some ⟨g, 0, none⟩)] w fun e w' => e = .returned (.bool false) ∧ St w0 X (pZ g z (some ⟨ga, oa, none⟩) cc :: pL (some ga) (some ⟨ga, oa, none⟩) cc z :: L) w') := Lib.hid (fun w hs => none_st hs (by simp))
 obtain ⟨RL, hRL⟩ : ∃ RL, RL = zcl z (some ⟨ga, oa, none⟩) cc := ⟨_, rfl⟩
 obtain ⟨k, hk⟩ : ∃ n, n = z.l.length := ⟨_, rfl⟩
 have hk1 : k ≤ 4096 := by rw [hk, ho.1]; exact ho.2.2.1
 have hk0 : 1 ≤ k := by rw [hk, ho.1]; exact ho.2.1
 obtain ⟨l, hl⟩ : ∃ l, l = z.l := ⟨_, rfl⟩
 have R5 := Lib.hid (show RL[5]? = some (.slice (some ⟨ga, oa, none⟩) k cc) by rw [hRL, hk]; rfl)
 have e1 : pZ g z (some ⟨ga, oa, none⟩) cc = .blk g 71 RL := by rw [hRL]
 have e2 : pL (some ga) (some ⟨ga, oa, none⟩) cc z = .own 3 (some ga) (some ⟨ga, oa, none⟩) k cc (ocs l) := by unfold pL; rw [← hk, ← hl]
 have HKL := Lib.hid (show l.length = k by rw [hl, hk])
 obtain ⟨NL, hNL⟩ : ∃ N, N = numsT (fun x => opn x.st) l k := ⟨_, rfl⟩
 have HNL : Hid (∀ j, (h : j < NL.length) → NL[j] < k) := Lib.hid (fun j h => by subst hNL; exact numsT_lt h)
 have HNN := Lib.hid (show NL.length ≤ k by rw [hNL]; exact numsT_le _ _ _)
 have HND := Lib.hid (show NL.Nodup by rw [hNL]; exact numsT_nd _ _ _)
 have FIN : Hid (∀ (w : World), St w0 X (.blk g 71 RL :: .own 3 (some ga) (some ⟨ga, oa, none⟩) k cc (ocs (pwL l NL)) :: L) w → St w0 X (pZ g (powerE z) (some ⟨ga, oa, none⟩) cc :: pL (some ga) (some ⟨ga, oa, none⟩) cc (powerE z) :: L) w) := Lib.hid (fun w hs => by
  have h1 : pZ g (powerE z) (some ⟨ga, oa, none⟩) cc = .blk g 71 RL := by rw [hRL]; unfold pZ zcl powerE; dsimp only; rw [List.length_map]
  have h2 : pL (some ga) (some ⟨ga, oa, none⟩) cc (powerE z) = .own 3 (some ga) (some ⟨ga, oa, none⟩) k cc (ocs (pwL l NL)) := by
   unfold pL powerE
   dsimp only
   rw [List.length_map, ← hk, ← hl, ← pwL_all, HKL.out, ← hNL]
  rw [h1, h2]
  exact hs)
 have CM : Hid (∀ (w : World), St w0 X (.blk g 71 RL :: .own 3 (some ga) (some ⟨ga, oa, none⟩) k cc (ocs l) :: L) w → Calls Try.prog 55 #[.slice (some ⟨ga, oa, none⟩) k cc, .func (.func 63) #[] #[]] w fun e w' => ∃ r B' c', e = .returned (.slice B' NL.length c') ∧ St w0 X (.own 1 r B' NL.length c' (ivs NL) :: .blk g 71 RL :: .own 3 (some ga) (some ⟨ga, oa, none⟩) k cc (ocs (pwL l [])) :: L) w') := Lib.hid (fun w hs => by
  refine (numbers_o (p := fun x => opn x.st) (l := l) (bnd := #[]) hs HKL.out.symm (Reads.own 1 rfl) hk1 hk0 (fun x M w hs => open_st hs x)).mono ?_
  rintro e w ⟨r, B', c', h1, h2⟩
  rw [← hNL] at h1 h2
  rw [pwL_nil]
  exact ⟨r, B', c', h1, h2⟩)
 rw [e1, e2] at hs CN
 clear hRL hk hl e1 e2 ho hNL
 go_enter Try.func29, Try.ntmps29
 go_wp2_with (first | ((with_reducible refine Se.isL (o := ⟨some 10, _, _, _, _, _⟩) ?_); (refine Se.toL rfl (Se.ld (o := ⟨some 10, _, _, _, _, _⟩) hs rfl rfl (Cell.blk 0 rfl R5.out) (by kernel_rfl) ?_))) | (go_at_call 42; refine Calls.mono (CN.out _ hs) ?_; clear hs; rintro e w ⟨rfl, hs⟩) | (go_at_call 55; refine Calls.mono (CM.out _ hs) ?_; clear hs; rintro e w ⟨r0, B0, c0, rfl, hs⟩))
 clear CM CN
 go_loopg [13] NL.length (fun gh s13 wr => ∃ (j : Nat), gh = NL.length - j ∧ j ≤ NL.length ∧ s13 = .int .i64 (j : Int) ∧ St w0 X (.own 1 r0 B0 NL.length c0 (ivs NL) :: .blk g 71 RL :: .own 3 (some ga) (some ⟨ga, oa, none⟩) k cc (ocs (pwL l (NL.take j))) :: L) wr)
 case atStart => exact ⟨0, rfl, Nat.zero_le _, rfl, hs⟩
 case round =>
  clear hs
  rename World => w
  obtain ⟨j, rfl, hj, rfl, hs⟩ := hrel
  obtain ⟨m, hm⟩ : ∃ m, m = NL.length := ⟨_, rfl⟩
  rw [← hm] at hs hj ⊢
  have hmk : m ≤ k := by rw [hm]; exact HNN.out
  by_cases hlt : j < m
  ·have hlt' : (j : Int) < (m : Int) := by omega
   have hjl : j < NL.length := by omega
   obtain ⟨gb, ob, rfl, rfl⟩ := hs.own_at 0 rfl (by omega)
   obtain ⟨ii, hii⟩ : ∃ i, i = NL[j] := ⟨_, rfl⟩
   have HC := Lib.hid (show (ivs NL)[j]? = some (iv ii) by unfold ivs; rw [List.getElem?_map, List.getElem?_eq_getElem hjl, hii]; rfl)
   have hik : ii < k := by rw [hii]; exact HNL.out j hjl
   have hik' : (ii : Int) < (k : Int) := by omega
   obtain ⟨q, hq⟩ : ∃ q, q = pwL l (NL.take j) := ⟨_, rfl⟩
   obtain ⟨x, hx⟩ : ∃ x, x = q.getD ii dz := ⟨_, rfl⟩
   have hql : q.length = k := by rw [hq, pwL_len, HKL.out]
   have hiq : ii < q.length := by rw [hql]; exact hik
   have HNX := Lib.hid (show q.set ii (closeZ x) = pwL l (NL.take (j + 1)) by
    rw [List.take_add_one, List.getElem?_eq_getElem hjl, Option.toList_some, ← hii, pwL_snoc (by rw [HKL.out]; exact hik) (by rw [hii]; exact nodup_take HND.out hjl), ← hq, ← hx])
   have HR : Hid (Reads (.own 1 (some gb) (some ⟨gb, ob, none⟩) m c0 (ivs NL) :: .blk g 71 RL :: .own 3 (some ga) (some ⟨ga, oa, none⟩) k cc (ocs q) :: L) (some ⟨ga, oa + ii * 3, none⟩) (oc x)) := Lib.hid (by
    have h := row_at (L := (.own 1 (some gb) (some ⟨gb, ob, none⟩) m c0 (ivs NL) :: .blk g 71 RL :: .own 3 (some ga) (some ⟨ga, oa, none⟩) k cc (ocs q) :: L)) (Reads.own 2 rfl) hiq
    rw [hx, getD_get hiq]; exact h)
   have CE : Hid ((ocs q).take (ii * 3) ++ oc (closeZ x) ++ (ocs q).drop (ii * 3 + 3) = ocs (pwL l (NL.take (j + 1)))) := Lib.hid (by rw [← HNX.out]; exact ocs_row_set q ii hiq _)
   have LE3 := Lib.hid (show ii * 3 + 3 ≤ (ocs q).length by rw [ocs_len]; omega)
   have CC := Lib.hid (show ∀ (L : List At) (w : World), St w0 X L w → Calls Try.prog 64 #[.agg (oc x).toArray] w fun e w' => e = .returned (.agg (oc (closeZ x)).toArray) ∧ St w0 X L w' from fun L w hs => closed_st hs x)
   obtain ⟨O, hO⟩ : ∃ O, O = oc x := ⟨_, rfl⟩
   obtain ⟨O2, hO2⟩ : ∃ O, O = oc (closeZ x) := ⟨_, rfl⟩
   have OL := Lib.hid (show O.length = 3 by rw [hO]; rfl)
   have OL2 := Lib.hid (show O2.length = 3 by rw [hO2]; rfl)
   have OO2 := Lib.hid (show ∀ v ∈ O2, v.oneCell' = true by rw [hO2]; exact oc_one _)
   rw [← hO] at HR CC
   rw [← hO2] at CC CE
   rw [← hq] at hs
   have HM := Lib.hid hm
   have HB := Lib.hid (show Blk w g RL 71 from hs.hold (.blk g 71 RL) (by simp))
   clear hO hO2 hii hq hx hql hiq HNX hm hjl HB
   go_upto_region 6 with (first | ((with_reducible refine Se.isL (o := ⟨some 16, _, _, _, _, _⟩) ?_); (refine Se.toL rfl (Se.ld (o := ⟨some 16, _, _, _, _, _⟩) hs rfl rfl ((Reads.own 0 rfl).cell j HC.out) (by kernel_rfl) ?_))))
   refine Ch.region' 14 (fun wx => Blk wx g RL 71) (fun | 11 => true | 12 => true | _ => false) (by kernel_rfl) (by decide +kernel) (hs.drew.hold (.blk g 71 RL) (by simp)) ?_
   replace hs := hs.drew
   generalize w.drew = w at hs ⊢
   change Ch.CW _ _ _ _ _ [0, 1, 2, 3, 4, 5, 6, 7, 8, 9, 10, 11, 12, 13] _ _
   iterate 11 ((first | (refine Ch.pure (v := ?_) (by rfl) (by rfl) (by rfl) (fun wx hS => ?_) ?_; rotate_left; (focus (go_simp; (first | done | with_reducible rfl)))) | refine Ch.pure (v := _) (by rfl) (by rfl) (by rfl) (fun wx hS => Se.xl rfl rfl (by rw [hS.cell]; exact R5.out) (by decide +kernel)) ?_); (try simp only [Act.put, List.setIfInBounds_toArray, List.set_cons_zero, List.set_cons_succ]))
   refine Ch.noise (by rfl) (by rfl) (by rfl) (Se.ldw hs rfl rfl HR.out (by rw [OL.out]; kernel_rfl) (by kernel_rfl) ?_)
   refine ⟨hs.hold (.blk g 71 RL) (by simp), ?_⟩
   (try simp only [Act.put, List.setIfInBounds_toArray, List.set_cons_zero, List.set_cons_succ])
   refine Ch.noise (by rfl) (by rfl) (by rfl) ?_
   refine Se.gcall (f := 64) (args := #[.agg O.toArray]) ?_ ?_
   ·go_simp
   refine Calls.mono (CC.out _ _ hs) ?_
   clear hs
   rintro e w ⟨rfl, hs⟩
   refine ⟨_, rfl, hs.hold (.blk g 71 RL) (by simp), ?_⟩
   (try simp only [Act.put, List.setIfInBounds_toArray, List.set_cons_zero, List.set_cons_succ])
   iterate 1 ((first | (refine Ch.pure (v := ?_) (by rfl) (by rfl) (by rfl) (fun wx hS => ?_) ?_; rotate_left; (focus (go_simp; (first | done | with_reducible rfl))))); (try simp only [Act.put, List.setIfInBounds_toArray, List.set_cons_zero, List.set_cons_succ]))
   refine Ch.done ?_
   try simp only [List.drop_succ_cons, List.drop_zero]
   go_wp2_with (first | ((with_reducible refine Se.isL (o := ⟨none, _, _, _, _, _⟩) ?_); (refine Se.toL rfl (Se.soae 2 hs rfl rfl rfl rfl (OO2.out) ((by rw [OL2.out]; kernel_rfl)) ((by rw [OL2.out]; decide)) (rfl) ((by rw [OL2.out]; exact LE3.out)) ((show _ = ocs (pwL l (NL.take (j + 1))) by rw [OL2.out]; exact CE.out)) ?_); clear hs; intro w hs; try simp only [List.cons_append, List.nil_append, List.set_cons_zero, List.set_cons_succ] at hs)))
   rw [HM.out] at hs ⊢
   go_roundg (NL.length - (j + 1))
   case measure => rw [HM.out] at hlt; omega
   case rel => exact ⟨j + 1, rfl, by rw [HM.out] at hlt; omega, by go_num, hs⟩
  ·obtain rfl : j = m := by omega
   have HM := Lib.hid hm
   rw [show NL.take j = NL by rw [hm, List.take_length]] at hs
   clear hm
   go_wp2_with fail
   go_ret
   exact ⟨rfl, FIN.out _ hs.drop⟩
end Zo
end Go.Proofs.Ythpgkkfahiglnaa


/- Layer 28: ManageAll on the copy. No condition but Go's own limits. Printed by wip/gen_zoneall.py. -/
import Derived.Test.YthpgkkfahiglnaaZoneMan
set_option maxRecDepth 100000
set_option maxHeartbeats 4000000
set_option linter.unusedSimpArgs false
set_option linter.unusedVariables false
namespace Go.Proofs.Ythpgkkfahiglnaa
open Go Go.RowKit
namespace Zo
open Se (St At Reads Cell)
open Li (Rd Blk Fr)
variable {w0 w : World} {X : List Nat} {L : List At}
attribute [local irreducible] Calls
attribute [local go_sem] eql_nil
theorem all11_st (hs : St w0 X L w) {sl : List Int} {B : Addr} {n c g5 : Nat} (hn : n = sl.length) (hB : Reads L (some B) (ints sl)) (hle : n ≤ 64) (h5 : Cell L g5 0 (.slice (some B) n c)) (x : Zn) :
  Calls Try.prog 62 #[.agg (oc x).toArray, .pointer (some ⟨g5, 0, none⟩)] w fun e w' => e = .returned (.bool (sl.contains (x.st : Int))) ∧ St w0 X L w' := by
 have CH : Hid (∀ (M : List At) (w : World), St w0 X (M ++ L) w → Calls Try.prog 57 #[.slice (some B) n c, .int .i64 (x.st : Int)] w fun e w' => e = .returned (.bool (sl.contains (x.st : Int))) ∧ St w0 X (M ++ L) w') := Lib.hid (fun M w hs => has_st hs hn (hB.app M) (by omega) _ rfl)
 have H5 := Lib.hid h5
 obtain ⟨b, hb⟩ : ∃ b, b = sl.contains (x.st : Int) := ⟨_, rfl⟩
 obtain ⟨O, hO⟩ : ∃ O, O = oc x := ⟨_, rfl⟩
 obtain ⟨s, hs0⟩ : ∃ s, s = x.st := ⟨_, rfl⟩
 have O0 := Lib.hid (show O[0]? = some (iv s) by rw [hO, hs0]; rfl)
 rw [← hb] at CH ⊢
 rw [← hs0] at CH
 rw [← hO]
 clear hb hO hs0 hn hB hle h5
 go_enter Try.func62, Try.ntmps62
 go_wp2_with (first | ((with_reducible refine Se.isL (o := ⟨some 4, _, _, _, _, _⟩) ?_); (refine Se.toL rfl (Se.ld (o := ⟨some 4, _, _, _, _, _⟩) hs rfl rfl ((capp [_] H5.out)) (by kernel_rfl) ?_))) | ((with_reducible refine Se.isL (o := ⟨some 6, _, _, _, _, _⟩) ?_); (refine Se.toL rfl (Se.ld (o := ⟨some 6, _, _, _, _, _⟩) hs rfl rfl (Cell.blk 0 rfl O0.out) (by kernel_rfl) ?_))) | ((first | with_reducible refine Se.ab hs ?_ | with_reducible refine Se.abc hs ?_); clear hs; (first | (generalize w.heap.size = g2; intro w hs))) | (go_at_call 57; refine Calls.mono (CH.out [_] _ hs) ?_; clear hs; rintro e w ⟨rfl, hs⟩))
 go_ret
 exact ⟨rfl, hs.drop⟩
theorem nums_eq (a : Nat) (ha : 1 ≤ a ∧ a ≤ 5) (l : List Zn) : numsT (fun x => (conL (a : Int)).contains (x.st : Int)) l l.length = (List.range l.length).filter fun i => concE a (l.getD i dz).st := by
 unfold numsT
 exact List.filter_congr fun i _ => con_eq a _ ha
theorem numsT_lt {p : Zn → Bool} {l : List Zn} {n j : Nat} (h : j < (numsT p l n).length) : (numsT p l n)[j] < n := by
 have h1 := List.getElem_mem h
 unfold numsT at h1
 exact List.mem_range.1 (List.mem_filter.1 h1).1
theorem runE_cons (a i : Nat) (is : List Nat) (z : Zs) : runE a (i :: is) z = if (actE z i a).2 = 0 then runE a is (actE z i a).1 else (z, (actE z i a).2) := by rw [runE]
theorem all0 {g cc gA : Nat} {z : Zs} {a : Addr} {r : Option Nat} (hs : St w0 X (pZ g z (some a) cc :: pL r (some a) cc z :: L) w) (ho : OkZ z) {a0 : Int} (h5 : a0 < 1 ∨ 5 < a0) (hA : Cell L gA 0 (.int .i64 a0)) :
  Calls Try.prog 60 #[.pointer (some ⟨g, 0, none⟩), .pointer (some ⟨gA, 0, none⟩)] w fun e' w' => True ∧ ER w0 X L g cc a r (manageAllE z a0) e' w' := by
 obtain ⟨RL, hRL⟩ : ∃ RL, RL = zcl z (some a) cc := ⟨_, rfl⟩
 obtain ⟨k, hk⟩ : ∃ n, n = z.l.length := ⟨_, rfl⟩
 have hk1 : k ≤ 4096 := by rw [hk, ho.1]; exact ho.2.2.1
 have hk0 : 1 ≤ k := by rw [hk, ho.1]; exact ho.2.1
 have R5 := Lib.hid (show RL[5]? = some (.slice (some a) k cc) by rw [hRL, hk]; rfl)
 have e1 : pZ g z (some a) cc = .blk g 71 RL := by rw [hRL]
 have HA : Hid (∀ (M : List At), Cell (M ++ (.blk g 71 RL :: pL r (some a) cc z :: L)) gA 0 (.int .i64 a0)) := Lib.hid (fun M => capp M (capp [_, _] hA))
 have BAD : Hid (manageAllE z a0 = (z, 2) → ∀ (w : World), St w0 X (.blk g 71 RL :: pL r (some a) cc z :: L) w → ER w0 X L g cc a r (manageAllE z a0) (.panicked (chS 2)) w) := Lib.hid (fun he w hs => by
  rw [← e1] at hs
  exact .inr (by rw [he]; exact ⟨(show (2 : Nat) ≠ 0 by decide), rfl, z, hs⟩))
 rw [e1] at hs
 have E1 := Lib.hid e1
 have HK := Lib.hid hk
 have HRL := Lib.hid hRL
 clear hRL hA e1
 have HE := Lib.hid (BAD.out (by unfold manageAllE; rw [if_pos h5]))
 have H5 := Lib.hid h5
 clear BAD h5 hk ho
 go_enter Try.func60, Try.ntmps60
 go_upto_region 0 with (fail)
 refine Ch.region' 8 (fun wx => wx.cell? ⟨gA, 0, none⟩ = some (.int .i64 a0)) (fun | 0 => true | 2 => true | _ => false) (by kernel_rfl) (by decide +kernel) (HA.out [] _ hs.drew.hold) ?_
 replace hs := hs.drew
 generalize w.drew = w at hs ⊢
 change Ch.CW _ _ _ _ _ [0, 1, 2, 3, 4, 5, 6, 7] _ _
 refine Ch.noise (by rfl) (by rfl) (by rfl) ?_
 refine Se.gcall (f := 45) (args := #[]) ?_ ?_
 ·go_simp
 refine Calls.mono (actions_st hs) ?_
 clear hs
 rintro e w ⟨gm, rfl, hs⟩
 refine ⟨_, rfl, HA.out [_] _ hs.hold, ?_⟩
 (try simp only [Act.put, List.setIfInBounds_toArray, List.set_cons_zero, List.set_cons_succ])
 iterate 1 ((first | (refine Ch.pure (v := ?_) (by rfl) (by rfl) (by rfl) (fun wx hS => ?_) ?_; rotate_left; (focus (go_simp; (first | done | with_reducible rfl)))) | refine Ch.pure (v := _) (by rfl) (by rfl) (by rfl) (fun wx hS => Se.xl rfl rfl hS (by decide +kernel)) ?_); (try simp only [Act.put, List.setIfInBounds_toArray, List.set_cons_zero, List.set_cons_succ]))
 refine Ch.noise (by rfl) (by rfl) (by rfl) (mlk hs rfl rfl rfl List.mem_cons_self Try.underlying95 Try.underlying48 zAct (five H5.out) (v := .nilFunc) (b := false) rfl rfl ?_)
 refine ⟨HA.out [_] _ hs.hold, ?_⟩
 (try simp only [Act.put, List.setIfInBounds_toArray, List.set_cons_zero, List.set_cons_succ])
 iterate 5 ((first | (refine Ch.pure (v := ?_) (by rfl) (by rfl) (by rfl) (fun wx hS => ?_) ?_; rotate_left; (focus (go_simp; (first | done | with_reducible rfl))))); (try simp only [Act.put, List.setIfInBounds_toArray, List.set_cons_zero, List.set_cons_succ]))
 refine Ch.done ?_
 try simp only [List.drop_succ_cons, List.drop_zero]
 go_upto_region 1 with (fail)
 go_wp2_with (first | (go_at_call 36; refine Calls.mono (must_f hs 2 (by decide)) ?_; clear hs; rintro e w ⟨rfl, hs⟩))
 exact ⟨rfl, trivial, HE.out _ hs.drop⟩
theorem all1 {g cc gA : Nat} {z : Zs} {a : Addr} {r : Option Nat} (hs : St w0 X (pZ g z (some a) cc :: pL r (some a) cc z :: L) w) (ho : OkZ z) (hA : Cell L gA 0 (.int .i64 1)) :
  Calls Try.prog 60 #[.pointer (some ⟨g, 0, none⟩), .pointer (some ⟨gA, 0, none⟩)] w fun e' w' => True ∧ ER w0 X L g cc a r (manageAllE z 1) e' w' := by
 obtain ⟨ga, oa, ha, hr⟩ := hs.own_at 1 rfl (by have := ho.1; have := ho.2.1; omega)
 obtain rfl : a = ⟨ga, oa, none⟩ := by simpa using ha
 subst hr
 clear ha
 obtain ⟨RL, hRL⟩ : ∃ RL, RL = zcl z (some ⟨ga, oa, none⟩) cc := ⟨_, rfl⟩
 obtain ⟨k, hk⟩ : ∃ n, n = z.l.length := ⟨_, rfl⟩
 have hk1 : k ≤ 4096 := by rw [hk, ho.1]; exact ho.2.2.1
 have hk0 : 1 ≤ k := by rw [hk, ho.1]; exact ho.2.1
 have R5 := Lib.hid (show RL[5]? = some (.slice (some ⟨ga, oa, none⟩) k cc) by rw [hRL, hk]; rfl)
 have e1 : pZ g z (some ⟨ga, oa, none⟩) cc = .blk g 71 RL := by rw [hRL]
 have HA : Hid (∀ (M : List At), Cell (M ++ (.blk g 71 RL :: pL (some ga) (some ⟨ga, oa, none⟩) cc z :: L)) gA 0 (.int .i64 1)) := Lib.hid (fun M => capp M (capp [_, _] hA))
 have BAD : Hid (manageAllE z 1 = (z, 2) → ∀ (w : World), St w0 X (.blk g 71 RL :: pL (some ga) (some ⟨ga, oa, none⟩) cc z :: L) w → ER w0 X L g cc ⟨ga, oa, none⟩ (some ga) (manageAllE z 1) (.panicked (chS 2)) w) := Lib.hid (fun he w hs => by
  rw [← e1] at hs
  exact .inr (by rw [he]; exact ⟨(show (2 : Nat) ≠ 0 by decide), rfl, z, hs⟩))
 rw [e1] at hs
 have E1 := Lib.hid e1
 have HK := Lib.hid hk
 have HRL := Lib.hid hRL
 clear hRL hA e1
 obtain ⟨NL, hNL⟩ : ∃ N, N = numsT (fun x => (conL (1 : Int)).contains (x.st : Int)) z.l k := ⟨_, rfl⟩
 have HNE := Lib.hid (show NL = (List.range z.l.length).filter (fun i => concE 1 (z.l.getD i dz).st) by rw [hNL, hk]; exact nums_eq 1 (by decide) z.l)
 have HNL : Hid (∀ j, (h : j < NL.length) → NL[j] < k) := Lib.hid (fun j h => by subst hNL; exact numsT_lt h)
 have HNN := Lib.hid (show NL.length ≤ k by rw [hNL]; exact numsT_le _ _ _)
 have CN : Hid (∀ (P : List At) (g5 : Nat) (B : Addr) (c : Nat) (w : World), Reads (P ++ (.blk g 71 RL :: pL (some ga) (some ⟨ga, oa, none⟩) cc z :: L)) (some B) (ints (conL 1)) → St w0 X (.blk g5 59 [.slice (some B) (conL 1).length c] :: (P ++ (.blk g 71 RL :: pL (some ga) (some ⟨ga, oa, none⟩) cc z :: L))) w → Calls Try.prog 55 #[.slice (some ⟨ga, oa, none⟩) k cc, .func (.func 62) #[] #[.pointer (some ⟨g5, 0, none⟩)]] w fun e w' => ∃ r B' c', e = .returned (.slice B' NL.length c') ∧ St w0 X (pZ g z (some ⟨ga, oa, none⟩) cc :: pL (some ga) (some ⟨ga, oa, none⟩) cc z :: .own 1 r B' NL.length c' (ivs NL) :: L) w') := Lib.hid (fun P g5 B c w hB hs => by
  refine (numbers_m (p := fun x => (conL (1 : Int)).contains (x.st : Int)) (l := z.l) (bnd := #[.pointer (some ⟨g5, 0, none⟩)]) hs hk (((Reads.own 1 rfl : Reads (.blk g 71 RL :: pL (some ga) (some ⟨ga, oa, none⟩) cc z :: L) (some ⟨ga, oa, none⟩) (ocs z.l)).app P).app [_]) hk1 hk0 (fun x M w hs => all11_st hs rfl ((hB.app [_]).app M) (by decide) (capp M (Cell.blk 0 rfl rfl)) x)).mono ?_
  rintro e w ⟨r, B', c', h1, h2⟩
  rw [← hNL] at h1 h2
  refine ⟨r, B', c', h1, ?_⟩
  have h3 : St w0 X (.own 1 r B' NL.length c' (ivs NL) :: (.blk g 71 RL :: pL (some ga) (some ⟨ga, oa, none⟩) cc z :: L)) w := h2.sub (List.Sublist.cons_cons _ (.cons _ (List.sublist_append_right _ _)))
  rw [E1.out]
  replace h3 := h3.perm ((List.Perm.swap _ _ _).trans (List.Perm.cons _ (List.Perm.swap _ _ _)))
  exact h3)
 have MAE : Hid (∀ zj, runE 1 NL z = (zj, 0) → manageAllE z 1 = (zj, 0)) := Lib.hid (fun zj h => by
  unfold manageAllE
  rw [if_neg (by decide)]
  rw [show ((1 : Int)).toNat = 1 from rfl] 
  rw [← HNE.out, h]; rfl)
 have MAB : Hid (∀ zj c, c ≠ 0 → runE 1 NL z = (zj, c) → manageAllE z 1 = (z, c)) := Lib.hid (fun zj c hc h => by
  unfold manageAllE
  rw [if_neg (by decide)]
  rw [show ((1 : Int)).toNat = 1 from rfl] 
  rw [← HNE.out, h]
  exact if_neg hc)
 have CA : Hid (∀ (zj : Zs) (ii : Nat) (M : List At) (w : World), OkZ zj → ii < zj.l.length → St w0 X (pZ g zj (some ⟨ga, oa, none⟩) cc :: pL (some ga) (some ⟨ga, oa, none⟩) cc zj :: M) w → Calls Try.prog 73 #[.pointer (some ⟨g, 0, none⟩), .int .i64 (ii : Int)] w fun e' w' => True ∧ ER w0 X M g cc ⟨ga, oa, none⟩ (some ga) (actE zj ii 1) e' w') := Lib.hid (fun zj ii M w ho hi hs => close_st hs ho hi)
 have HO := Lib.hid ho
 have HK' := Lib.hid hk
 clear BAD hk ho hNL HNE HRL
 go_enter Try.func60, Try.ntmps60
 go_upto_region 0 with (fail)
 refine Ch.region' 8 (fun wx => wx.cell? ⟨gA, 0, none⟩ = some (.int .i64 1)) (fun | 0 => true | 2 => true | _ => false) (by kernel_rfl) (by decide +kernel) (HA.out [] _ hs.drew.hold) ?_
 replace hs := hs.drew
 generalize w.drew = w at hs ⊢
 change Ch.CW _ _ _ _ _ [0, 1, 2, 3, 4, 5, 6, 7] _ _
 refine Ch.noise (by rfl) (by rfl) (by rfl) ?_
 refine Se.gcall (f := 45) (args := #[]) ?_ ?_
 ·go_simp
 refine Calls.mono (actions_st hs) ?_
 clear hs
 rintro e w ⟨gm, rfl, hs⟩
 refine ⟨_, rfl, HA.out [_] _ hs.hold, ?_⟩
 (try simp only [Act.put, List.setIfInBounds_toArray, List.set_cons_zero, List.set_cons_succ])
 iterate 1 ((first | (refine Ch.pure (v := ?_) (by rfl) (by rfl) (by rfl) (fun wx hS => ?_) ?_; rotate_left; (focus (go_simp; (first | done | with_reducible rfl)))) | refine Ch.pure (v := _) (by rfl) (by rfl) (by rfl) (fun wx hS => Se.xl rfl rfl hS (by decide +kernel)) ?_); (try simp only [Act.put, List.setIfInBounds_toArray, List.set_cons_zero, List.set_cons_succ]))
 refine Ch.noise (by rfl) (by rfl) (by rfl) (mlk hs rfl rfl rfl List.mem_cons_self Try.underlying95 Try.underlying48 zAct (show _ = some (some (0, Value.func (.func 73) #[] #[])) by rfl) (v := .func (.func 73) #[] #[]) (b := true) rfl rfl ?_)
 refine ⟨HA.out [_] _ hs.hold, ?_⟩
 (try simp only [Act.put, List.setIfInBounds_toArray, List.set_cons_zero, List.set_cons_succ])
 iterate 5 ((first | (refine Ch.pure (v := ?_) (by rfl) (by rfl) (by rfl) (fun wx hS => ?_) ?_; rotate_left; (focus (go_simp; (first | done | with_reducible rfl))))); (try simp only [Act.put, List.setIfInBounds_toArray, List.set_cons_zero, List.set_cons_succ]))
 refine Ch.done ?_
 try simp only [List.drop_succ_cons, List.drop_zero]
 go_upto_region 1 with (fail)
 go_upto_region 2 with (first | (go_at_call 36; refine Calls.mono (must_t hs 2) ?_; clear hs; rintro e w ⟨rfl, hs⟩))
 replace hs := hs.drop
 go_upto_region 3 with (first | ((with_reducible refine Se.isL (o := ⟨some 16, _, _, _, _, _⟩) ?_); (refine Se.toL rfl (Se.ld (o := ⟨some 16, _, _, _, _, _⟩) hs rfl rfl (HA.out []) (by kernel_rfl) ?_))) | ((with_reducible refine Se.isL (o := ⟨some 5, _, _, _, _, _⟩) ?_); (refine Se.toL rfl (Se.al (o := ⟨some 5, _, _, _, _, _⟩) hs rfl (zSl) ?_); clear hs; rintro w g5 - hs)) | ((with_reducible refine Se.isL (o := ⟨none, _, _, _, _, _⟩) ?_); ((first | refine Se.toL rfl (Se.so 0 (v := .int _ _) hs rfl rfl rfl rfl rfl (by kernel_rfl) (by simp) ?_) | refine Se.toL rfl (Se.so 0 (v := .bool _) hs rfl rfl rfl rfl rfl (by kernel_rfl) (by simp) ?_) | refine Se.toL rfl (Se.so 0 (v := .slice _ _ _) hs rfl rfl rfl rfl rfl (by kernel_rfl) (by simp) ?_) | refine Se.toL rfl (Se.so 0 (v := .pointer _) hs rfl rfl rfl rfl rfl (by kernel_rfl) (by simp) ?_) | refine Se.toL rfl (Se.so 0 (v := .string _) hs rfl rfl rfl rfl rfl (by kernel_rfl) (by simp) ?_) | refine Se.toL rfl (Se.so 0 (v := .map _) hs rfl rfl rfl rfl rfl (by kernel_rfl) (by simp) ?_) | refine Se.toL rfl (Se.so 0 (v := .func _ _ _) hs rfl rfl rfl rfl rfl (by kernel_rfl) (by simp) ?_) | refine Se.toL rfl (Se.so 0 (v := .nilFunc) hs rfl rfl rfl rfl rfl (by kernel_rfl) (by simp) ?_)); clear hs; intro w hs; try simp only [List.cons_append, List.nil_append, List.set_cons_zero] at hs)) | (go_at_call 61; refine Calls.mono (concerned_st hs 1) ?_; clear hs; rintro e w ⟨B, c, P, rfl, hB, hs⟩))
 go_wp2_with (first | ((with_reducible refine Se.isL (o := ⟨some 21, _, _, _, _, _⟩) ?_); (refine Se.toL rfl (Se.ld (o := ⟨some 21, _, _, _, _, _⟩) hs rfl rfl ((capp [_] (capp P (Cell.blk 0 rfl R5.out)))) (by kernel_rfl) ?_))) | (go_at_call 55; refine Calls.mono (CN.out _ _ _ _ _ hB hs) ?_; clear hs; rintro e w ⟨r0, B0, c0, rfl, hs⟩))
 go_loopg [25] NL.length (fun gh s25 wr => ∃ (j : Nat) (zj : Zs), gh = NL.length - j ∧ j ≤ NL.length ∧ s25 = .int .i64 (j : Int) ∧ Hid ((OkZ zj ∧ zj.l.length = k) ∧ runE 1 NL z = runE 1 (NL.drop j) zj) ∧ St w0 X (pZ g zj (some ⟨ga, oa, none⟩) cc :: pL (some ga) (some ⟨ga, oa, none⟩) cc zj :: .own 1 r0 B0 NL.length c0 (ivs NL) :: L) wr)
 case atStart => exact ⟨0, z, rfl, Nat.zero_le _, rfl, Lib.hid ⟨⟨HO.out, HK'.out.symm⟩, rfl⟩, hs⟩
 case round =>
  clear hs
  rename World => w
  obtain ⟨j, zj, rfl, hj, rfl, HZ, hs⟩ := hrel
  obtain ⟨m, hm⟩ : ∃ m, m = NL.length := ⟨_, rfl⟩
  rw [← hm] at hs hj ⊢
  have hmk : m ≤ k := by rw [hm]; exact HNN.out
  by_cases hlt : j < m
  ·have hlt' : (j : Int) < (m : Int) := by omega
   have hjl : j < NL.length := by omega
   obtain ⟨gb, ob, rfl, rfl⟩ := hs.own_at 2 rfl (by omega)
   obtain ⟨ii, hii⟩ : ∃ i, i = NL[j] := ⟨_, rfl⟩
   have HC := Lib.hid (show (ivs NL)[j]? = some (iv ii) by unfold ivs; rw [List.getElem?_map, List.getElem?_eq_getElem hjl, hii]; rfl)
   have hik : ii < zj.l.length := by rw [hii, HZ.out.1.2]; exact HNL.out j hjl
   have CA2 := Lib.hid (fun w hs => CA.out zj ii (.own 1 (some gb) (some ⟨gb, ob, none⟩) m c0 (ivs NL) :: L) w HZ.out.1.1 hik hs)
   have HD : Hid (NL.drop j = ii :: NL.drop (j + 1)) := Lib.hid (by rw [hii]; exact List.drop_eq_getElem_cons hjl)
   have HOA := Lib.hid (HZ.out.1.1.act hik 1)
   have HR := Lib.hid (show runE 1 NL z = if (actE zj ii 1).2 = 0 then runE 1 (NL.drop (j + 1)) (actE zj ii 1).1 else (zj, (actE zj ii 1).2) by rw [HZ.out.2, HD.out, runE_cons])
   have HZ1 := Lib.hid HZ.out.1.2
   obtain ⟨q, hq⟩ : ∃ q, q = actE zj ii 1 := ⟨_, rfl⟩
   rw [← hq] at CA2 HR HOA
   have HM := Lib.hid hm
   clear hii hik hq HD CA hm HZ hjl
   by_cases hq0 : q.2 = 0
   ·have HR2 := Lib.hid (show runE 1 NL z = runE 1 (NL.drop (j + 1)) q.1 by rw [HR.out, if_pos hq0])
    have CA3 : Hid (∀ (w : World), St w0 X (pZ g zj (some ⟨ga, oa, none⟩) cc :: pL (some ga) (some ⟨ga, oa, none⟩) cc zj :: .own 1 (some gb) (some ⟨gb, ob, none⟩) m c0 (ivs NL) :: L) w → Calls Try.prog 73 #[.pointer (some ⟨g, 0, none⟩), .int .i64 (ii : Int)] w fun e' w' => e' = .returned (.tuple #[]) ∧ St w0 X (pZ g q.1 (some ⟨ga, oa, none⟩) cc :: pL (some ga) (some ⟨ga, oa, none⟩) cc q.1 :: .own 1 (some gb) (some ⟨gb, ob, none⟩) m c0 (ivs NL) :: L) w') := Lib.hid (fun w hs => (CA2.out w hs).mono (by
     rintro e w ⟨_, ⟨_, h1, h2⟩ | ⟨h1, _⟩⟩
     ·exact ⟨h1, h2⟩
     ·exact absurd hq0 h1))
    clear CA2 HR hq0
    go_wp2_with (first | ((with_reducible refine Se.isL (o := ⟨some 28, _, _, _, _, _⟩) ?_); (refine Se.toL rfl (Se.ld (o := ⟨some 28, _, _, _, _, _⟩) hs rfl rfl (((Reads.own 2 rfl).cell j HC.out)) (by kernel_rfl) ?_))) | (go_at_call 73; refine Calls.mono (CA3.out _ hs) ?_; clear hs; rintro e w ⟨rfl, hs⟩))
    rw [HM.out] at hs ⊢
    go_roundg (NL.length - (j + 1))
    case measure => rw [HM.out] at hlt; omega
    case rel => exact ⟨j + 1, q.1, rfl, by rw [HM.out] at hlt; omega, by go_num, Lib.hid ⟨⟨HOA.out.1, by rw [HOA.out.2.2.2, HZ1.out]⟩, HR2.out⟩, hs⟩
   ·have HF := Lib.hid (MAB.out zj q.2 hq0 (by rw [HR.out, if_neg hq0]))
    have CA3 : Hid (∀ (w : World), St w0 X (pZ g zj (some ⟨ga, oa, none⟩) cc :: pL (some ga) (some ⟨ga, oa, none⟩) cc zj :: .own 1 (some gb) (some ⟨gb, ob, none⟩) m c0 (ivs NL) :: L) w → Calls Try.prog 73 #[.pointer (some ⟨g, 0, none⟩), .int .i64 (ii : Int)] w fun e' w' => e' = .panicked (chS q.2) ∧ ER w0 X L g cc ⟨ga, oa, none⟩ (some ga) (manageAllE z 1) (.panicked (chS q.2)) w') := Lib.hid (fun w hs => (CA2.out w hs).mono (by
     rintro e w ⟨_, ⟨h1, _⟩ | ⟨_, h1, z', h2⟩⟩
     ·exact absurd h1 hq0
     ·exact ⟨h1, .inr (by rw [HF.out]; exact ⟨hq0, rfl, z', h2.sub (List.Sublist.cons_cons _ (List.Sublist.cons_cons _ (.cons _ (List.Sublist.refl _))))⟩)⟩))
    clear CA2 HR hq0
    go_wp2_with (first | ((with_reducible refine Se.isL (o := ⟨some 28, _, _, _, _, _⟩) ?_); (refine Se.toL rfl (Se.ld (o := ⟨some 28, _, _, _, _, _⟩) hs rfl rfl (((Reads.own 2 rfl).cell j HC.out)) (by kernel_rfl) ?_))) | (go_at_call 73; refine Calls.mono (CA3.out _ hs) ?_; clear hs; rintro e w ⟨rfl, hE⟩))
    exact ⟨rfl, trivial, hE⟩
  ·obtain rfl : j = m := by omega
   have HF := Lib.hid (MAE.out zj (by rw [HZ.out.2, hm, List.drop_length, runE]))
   clear hm HZ CA
   go_wp2_with fail
   go_end0
   have hE : ER w0 X L g cc ⟨ga, oa, none⟩ (some ga) (manageAllE z 1) (.returned (.tuple #[])) w := .inl (by rw [HF.out]; exact ⟨rfl, rfl, hs.sub (List.Sublist.cons_cons _ (List.Sublist.cons_cons _ (.cons _ (List.Sublist.refl _))))⟩)
   first | exact hE | exact ⟨trivial, hE⟩
theorem all2 {g cc gA : Nat} {z : Zs} {a : Addr} {r : Option Nat} (hs : St w0 X (pZ g z (some a) cc :: pL r (some a) cc z :: L) w) (ho : OkZ z) (hA : Cell L gA 0 (.int .i64 2)) :
  Calls Try.prog 60 #[.pointer (some ⟨g, 0, none⟩), .pointer (some ⟨gA, 0, none⟩)] w fun e' w' => True ∧ ER w0 X L g cc a r (manageAllE z 2) e' w' := by
 obtain ⟨ga, oa, ha, hr⟩ := hs.own_at 1 rfl (by have := ho.1; have := ho.2.1; omega)
 obtain rfl : a = ⟨ga, oa, none⟩ := by simpa using ha
 subst hr
 clear ha
 obtain ⟨RL, hRL⟩ : ∃ RL, RL = zcl z (some ⟨ga, oa, none⟩) cc := ⟨_, rfl⟩
 obtain ⟨k, hk⟩ : ∃ n, n = z.l.length := ⟨_, rfl⟩
 have hk1 : k ≤ 4096 := by rw [hk, ho.1]; exact ho.2.2.1
 have hk0 : 1 ≤ k := by rw [hk, ho.1]; exact ho.2.1
 have R5 := Lib.hid (show RL[5]? = some (.slice (some ⟨ga, oa, none⟩) k cc) by rw [hRL, hk]; rfl)
 have e1 : pZ g z (some ⟨ga, oa, none⟩) cc = .blk g 71 RL := by rw [hRL]
 have HA : Hid (∀ (M : List At), Cell (M ++ (.blk g 71 RL :: pL (some ga) (some ⟨ga, oa, none⟩) cc z :: L)) gA 0 (.int .i64 2)) := Lib.hid (fun M => capp M (capp [_, _] hA))
 have BAD : Hid (manageAllE z 2 = (z, 2) → ∀ (w : World), St w0 X (.blk g 71 RL :: pL (some ga) (some ⟨ga, oa, none⟩) cc z :: L) w → ER w0 X L g cc ⟨ga, oa, none⟩ (some ga) (manageAllE z 2) (.panicked (chS 2)) w) := Lib.hid (fun he w hs => by
  rw [← e1] at hs
  exact .inr (by rw [he]; exact ⟨(show (2 : Nat) ≠ 0 by decide), rfl, z, hs⟩))
 rw [e1] at hs
 have E1 := Lib.hid e1
 have HK := Lib.hid hk
 have HRL := Lib.hid hRL
 clear hRL hA e1
 obtain ⟨NL, hNL⟩ : ∃ N, N = numsT (fun x => (conL (2 : Int)).contains (x.st : Int)) z.l k := ⟨_, rfl⟩
 have HNE := Lib.hid (show NL = (List.range z.l.length).filter (fun i => concE 2 (z.l.getD i dz).st) by rw [hNL, hk]; exact nums_eq 2 (by decide) z.l)
 have HNL : Hid (∀ j, (h : j < NL.length) → NL[j] < k) := Lib.hid (fun j h => by subst hNL; exact numsT_lt h)
 have HNN := Lib.hid (show NL.length ≤ k by rw [hNL]; exact numsT_le _ _ _)
 have CN : Hid (∀ (P : List At) (g5 : Nat) (B : Addr) (c : Nat) (w : World), Reads (P ++ (.blk g 71 RL :: pL (some ga) (some ⟨ga, oa, none⟩) cc z :: L)) (some B) (ints (conL 2)) → St w0 X (.blk g5 59 [.slice (some B) (conL 2).length c] :: (P ++ (.blk g 71 RL :: pL (some ga) (some ⟨ga, oa, none⟩) cc z :: L))) w → Calls Try.prog 55 #[.slice (some ⟨ga, oa, none⟩) k cc, .func (.func 62) #[] #[.pointer (some ⟨g5, 0, none⟩)]] w fun e w' => ∃ r B' c', e = .returned (.slice B' NL.length c') ∧ St w0 X (pZ g z (some ⟨ga, oa, none⟩) cc :: pL (some ga) (some ⟨ga, oa, none⟩) cc z :: .own 1 r B' NL.length c' (ivs NL) :: L) w') := Lib.hid (fun P g5 B c w hB hs => by
  refine (numbers_m (p := fun x => (conL (2 : Int)).contains (x.st : Int)) (l := z.l) (bnd := #[.pointer (some ⟨g5, 0, none⟩)]) hs hk (((Reads.own 1 rfl : Reads (.blk g 71 RL :: pL (some ga) (some ⟨ga, oa, none⟩) cc z :: L) (some ⟨ga, oa, none⟩) (ocs z.l)).app P).app [_]) hk1 hk0 (fun x M w hs => all11_st hs rfl ((hB.app [_]).app M) (by decide) (capp M (Cell.blk 0 rfl rfl)) x)).mono ?_
  rintro e w ⟨r, B', c', h1, h2⟩
  rw [← hNL] at h1 h2
  refine ⟨r, B', c', h1, ?_⟩
  have h3 : St w0 X (.own 1 r B' NL.length c' (ivs NL) :: (.blk g 71 RL :: pL (some ga) (some ⟨ga, oa, none⟩) cc z :: L)) w := h2.sub (List.Sublist.cons_cons _ (.cons _ (List.sublist_append_right _ _)))
  rw [E1.out]
  replace h3 := h3.perm ((List.Perm.swap _ _ _).trans (List.Perm.cons _ (List.Perm.swap _ _ _)))
  exact h3)
 have MAE : Hid (∀ zj, runE 2 NL z = (zj, 0) → manageAllE z 2 = (zj, 0)) := Lib.hid (fun zj h => by
  unfold manageAllE
  rw [if_neg (by decide)]
  rw [show ((2 : Int)).toNat = 2 from rfl] 
  rw [← HNE.out, h]; rfl)
 have MAB : Hid (∀ zj c, c ≠ 0 → runE 2 NL z = (zj, c) → manageAllE z 2 = (z, c)) := Lib.hid (fun zj c hc h => by
  unfold manageAllE
  rw [if_neg (by decide)]
  rw [show ((2 : Int)).toNat = 2 from rfl] 
  rw [← HNE.out, h]
  exact if_neg hc)
 have CA : Hid (∀ (zj : Zs) (ii : Nat) (M : List At) (w : World), OkZ zj → ii < zj.l.length → St w0 X (pZ g zj (some ⟨ga, oa, none⟩) cc :: pL (some ga) (some ⟨ga, oa, none⟩) cc zj :: M) w → Calls Try.prog 74 #[.pointer (some ⟨g, 0, none⟩), .int .i64 (ii : Int)] w fun e' w' => True ∧ ER w0 X M g cc ⟨ga, oa, none⟩ (some ga) (actE zj ii 2) e' w') := Lib.hid (fun zj ii M w ho hi hs => finish_st hs ho hi)
 have HO := Lib.hid ho
 have HK' := Lib.hid hk
 clear BAD hk ho hNL HNE HRL
 go_enter Try.func60, Try.ntmps60
 go_upto_region 0 with (fail)
 refine Ch.region' 8 (fun wx => wx.cell? ⟨gA, 0, none⟩ = some (.int .i64 2)) (fun | 0 => true | 2 => true | _ => false) (by kernel_rfl) (by decide +kernel) (HA.out [] _ hs.drew.hold) ?_
 replace hs := hs.drew
 generalize w.drew = w at hs ⊢
 change Ch.CW _ _ _ _ _ [0, 1, 2, 3, 4, 5, 6, 7] _ _
 refine Ch.noise (by rfl) (by rfl) (by rfl) ?_
 refine Se.gcall (f := 45) (args := #[]) ?_ ?_
 ·go_simp
 refine Calls.mono (actions_st hs) ?_
 clear hs
 rintro e w ⟨gm, rfl, hs⟩
 refine ⟨_, rfl, HA.out [_] _ hs.hold, ?_⟩
 (try simp only [Act.put, List.setIfInBounds_toArray, List.set_cons_zero, List.set_cons_succ])
 iterate 1 ((first | (refine Ch.pure (v := ?_) (by rfl) (by rfl) (by rfl) (fun wx hS => ?_) ?_; rotate_left; (focus (go_simp; (first | done | with_reducible rfl)))) | refine Ch.pure (v := _) (by rfl) (by rfl) (by rfl) (fun wx hS => Se.xl rfl rfl hS (by decide +kernel)) ?_); (try simp only [Act.put, List.setIfInBounds_toArray, List.set_cons_zero, List.set_cons_succ]))
 refine Ch.noise (by rfl) (by rfl) (by rfl) (mlk hs rfl rfl rfl List.mem_cons_self Try.underlying95 Try.underlying48 zAct (show _ = some (some (1, Value.func (.func 74) #[] #[])) by rfl) (v := .func (.func 74) #[] #[]) (b := true) rfl rfl ?_)
 refine ⟨HA.out [_] _ hs.hold, ?_⟩
 (try simp only [Act.put, List.setIfInBounds_toArray, List.set_cons_zero, List.set_cons_succ])
 iterate 5 ((first | (refine Ch.pure (v := ?_) (by rfl) (by rfl) (by rfl) (fun wx hS => ?_) ?_; rotate_left; (focus (go_simp; (first | done | with_reducible rfl))))); (try simp only [Act.put, List.setIfInBounds_toArray, List.set_cons_zero, List.set_cons_succ]))
 refine Ch.done ?_
 try simp only [List.drop_succ_cons, List.drop_zero]
 go_upto_region 1 with (fail)
 go_upto_region 2 with (first | (go_at_call 36; refine Calls.mono (must_t hs 2) ?_; clear hs; rintro e w ⟨rfl, hs⟩))
 replace hs := hs.drop
 go_upto_region 3 with (first | ((with_reducible refine Se.isL (o := ⟨some 16, _, _, _, _, _⟩) ?_); (refine Se.toL rfl (Se.ld (o := ⟨some 16, _, _, _, _, _⟩) hs rfl rfl (HA.out []) (by kernel_rfl) ?_))) | ((with_reducible refine Se.isL (o := ⟨some 5, _, _, _, _, _⟩) ?_); (refine Se.toL rfl (Se.al (o := ⟨some 5, _, _, _, _, _⟩) hs rfl (zSl) ?_); clear hs; rintro w g5 - hs)) | ((with_reducible refine Se.isL (o := ⟨none, _, _, _, _, _⟩) ?_); ((first | refine Se.toL rfl (Se.so 0 (v := .int _ _) hs rfl rfl rfl rfl rfl (by kernel_rfl) (by simp) ?_) | refine Se.toL rfl (Se.so 0 (v := .bool _) hs rfl rfl rfl rfl rfl (by kernel_rfl) (by simp) ?_) | refine Se.toL rfl (Se.so 0 (v := .slice _ _ _) hs rfl rfl rfl rfl rfl (by kernel_rfl) (by simp) ?_) | refine Se.toL rfl (Se.so 0 (v := .pointer _) hs rfl rfl rfl rfl rfl (by kernel_rfl) (by simp) ?_) | refine Se.toL rfl (Se.so 0 (v := .string _) hs rfl rfl rfl rfl rfl (by kernel_rfl) (by simp) ?_) | refine Se.toL rfl (Se.so 0 (v := .map _) hs rfl rfl rfl rfl rfl (by kernel_rfl) (by simp) ?_) | refine Se.toL rfl (Se.so 0 (v := .func _ _ _) hs rfl rfl rfl rfl rfl (by kernel_rfl) (by simp) ?_) | refine Se.toL rfl (Se.so 0 (v := .nilFunc) hs rfl rfl rfl rfl rfl (by kernel_rfl) (by simp) ?_)); clear hs; intro w hs; try simp only [List.cons_append, List.nil_append, List.set_cons_zero] at hs)) | (go_at_call 61; refine Calls.mono (concerned_st hs 2) ?_; clear hs; rintro e w ⟨B, c, P, rfl, hB, hs⟩))
 go_wp2_with (first | ((with_reducible refine Se.isL (o := ⟨some 21, _, _, _, _, _⟩) ?_); (refine Se.toL rfl (Se.ld (o := ⟨some 21, _, _, _, _, _⟩) hs rfl rfl ((capp [_] (capp P (Cell.blk 0 rfl R5.out)))) (by kernel_rfl) ?_))) | (go_at_call 55; refine Calls.mono (CN.out _ _ _ _ _ hB hs) ?_; clear hs; rintro e w ⟨r0, B0, c0, rfl, hs⟩))
 go_loopg [25] NL.length (fun gh s25 wr => ∃ (j : Nat) (zj : Zs), gh = NL.length - j ∧ j ≤ NL.length ∧ s25 = .int .i64 (j : Int) ∧ Hid ((OkZ zj ∧ zj.l.length = k) ∧ runE 2 NL z = runE 2 (NL.drop j) zj) ∧ St w0 X (pZ g zj (some ⟨ga, oa, none⟩) cc :: pL (some ga) (some ⟨ga, oa, none⟩) cc zj :: .own 1 r0 B0 NL.length c0 (ivs NL) :: L) wr)
 case atStart => exact ⟨0, z, rfl, Nat.zero_le _, rfl, Lib.hid ⟨⟨HO.out, HK'.out.symm⟩, rfl⟩, hs⟩
 case round =>
  clear hs
  rename World => w
  obtain ⟨j, zj, rfl, hj, rfl, HZ, hs⟩ := hrel
  obtain ⟨m, hm⟩ : ∃ m, m = NL.length := ⟨_, rfl⟩
  rw [← hm] at hs hj ⊢
  have hmk : m ≤ k := by rw [hm]; exact HNN.out
  by_cases hlt : j < m
  ·have hlt' : (j : Int) < (m : Int) := by omega
   have hjl : j < NL.length := by omega
   obtain ⟨gb, ob, rfl, rfl⟩ := hs.own_at 2 rfl (by omega)
   obtain ⟨ii, hii⟩ : ∃ i, i = NL[j] := ⟨_, rfl⟩
   have HC := Lib.hid (show (ivs NL)[j]? = some (iv ii) by unfold ivs; rw [List.getElem?_map, List.getElem?_eq_getElem hjl, hii]; rfl)
   have hik : ii < zj.l.length := by rw [hii, HZ.out.1.2]; exact HNL.out j hjl
   have CA2 := Lib.hid (fun w hs => CA.out zj ii (.own 1 (some gb) (some ⟨gb, ob, none⟩) m c0 (ivs NL) :: L) w HZ.out.1.1 hik hs)
   have HD : Hid (NL.drop j = ii :: NL.drop (j + 1)) := Lib.hid (by rw [hii]; exact List.drop_eq_getElem_cons hjl)
   have HOA := Lib.hid (HZ.out.1.1.act hik 2)
   have HR := Lib.hid (show runE 2 NL z = if (actE zj ii 2).2 = 0 then runE 2 (NL.drop (j + 1)) (actE zj ii 2).1 else (zj, (actE zj ii 2).2) by rw [HZ.out.2, HD.out, runE_cons])
   have HZ1 := Lib.hid HZ.out.1.2
   obtain ⟨q, hq⟩ : ∃ q, q = actE zj ii 2 := ⟨_, rfl⟩
   rw [← hq] at CA2 HR HOA
   have HM := Lib.hid hm
   clear hii hik hq HD CA hm HZ hjl
   by_cases hq0 : q.2 = 0
   ·have HR2 := Lib.hid (show runE 2 NL z = runE 2 (NL.drop (j + 1)) q.1 by rw [HR.out, if_pos hq0])
    have CA3 : Hid (∀ (w : World), St w0 X (pZ g zj (some ⟨ga, oa, none⟩) cc :: pL (some ga) (some ⟨ga, oa, none⟩) cc zj :: .own 1 (some gb) (some ⟨gb, ob, none⟩) m c0 (ivs NL) :: L) w → Calls Try.prog 74 #[.pointer (some ⟨g, 0, none⟩), .int .i64 (ii : Int)] w fun e' w' => e' = .returned (.tuple #[]) ∧ St w0 X (pZ g q.1 (some ⟨ga, oa, none⟩) cc :: pL (some ga) (some ⟨ga, oa, none⟩) cc q.1 :: .own 1 (some gb) (some ⟨gb, ob, none⟩) m c0 (ivs NL) :: L) w') := Lib.hid (fun w hs => (CA2.out w hs).mono (by
     rintro e w ⟨_, ⟨_, h1, h2⟩ | ⟨h1, _⟩⟩
     ·exact ⟨h1, h2⟩
     ·exact absurd hq0 h1))
    clear CA2 HR hq0
    go_wp2_with (first | ((with_reducible refine Se.isL (o := ⟨some 28, _, _, _, _, _⟩) ?_); (refine Se.toL rfl (Se.ld (o := ⟨some 28, _, _, _, _, _⟩) hs rfl rfl (((Reads.own 2 rfl).cell j HC.out)) (by kernel_rfl) ?_))) | (go_at_call 74; refine Calls.mono (CA3.out _ hs) ?_; clear hs; rintro e w ⟨rfl, hs⟩))
    rw [HM.out] at hs ⊢
    go_roundg (NL.length - (j + 1))
    case measure => rw [HM.out] at hlt; omega
    case rel => exact ⟨j + 1, q.1, rfl, by rw [HM.out] at hlt; omega, by go_num, Lib.hid ⟨⟨HOA.out.1, by rw [HOA.out.2.2.2, HZ1.out]⟩, HR2.out⟩, hs⟩
   ·have HF := Lib.hid (MAB.out zj q.2 hq0 (by rw [HR.out, if_neg hq0]))
    have CA3 : Hid (∀ (w : World), St w0 X (pZ g zj (some ⟨ga, oa, none⟩) cc :: pL (some ga) (some ⟨ga, oa, none⟩) cc zj :: .own 1 (some gb) (some ⟨gb, ob, none⟩) m c0 (ivs NL) :: L) w → Calls Try.prog 74 #[.pointer (some ⟨g, 0, none⟩), .int .i64 (ii : Int)] w fun e' w' => e' = .panicked (chS q.2) ∧ ER w0 X L g cc ⟨ga, oa, none⟩ (some ga) (manageAllE z 2) (.panicked (chS q.2)) w') := Lib.hid (fun w hs => (CA2.out w hs).mono (by
     rintro e w ⟨_, ⟨h1, _⟩ | ⟨_, h1, z', h2⟩⟩
     ·exact absurd h1 hq0
     ·exact ⟨h1, .inr (by rw [HF.out]; exact ⟨hq0, rfl, z', h2.sub (List.Sublist.cons_cons _ (List.Sublist.cons_cons _ (.cons _ (List.Sublist.refl _))))⟩)⟩))
    clear CA2 HR hq0
    go_wp2_with (first | ((with_reducible refine Se.isL (o := ⟨some 28, _, _, _, _, _⟩) ?_); (refine Se.toL rfl (Se.ld (o := ⟨some 28, _, _, _, _, _⟩) hs rfl rfl (((Reads.own 2 rfl).cell j HC.out)) (by kernel_rfl) ?_))) | (go_at_call 74; refine Calls.mono (CA3.out _ hs) ?_; clear hs; rintro e w ⟨rfl, hE⟩))
    exact ⟨rfl, trivial, hE⟩
  ·obtain rfl : j = m := by omega
   have HF := Lib.hid (MAE.out zj (by rw [HZ.out.2, hm, List.drop_length, runE]))
   clear hm HZ CA
   go_wp2_with fail
   go_end0
   have hE : ER w0 X L g cc ⟨ga, oa, none⟩ (some ga) (manageAllE z 2) (.returned (.tuple #[])) w := .inl (by rw [HF.out]; exact ⟨rfl, rfl, hs.sub (List.Sublist.cons_cons _ (List.Sublist.cons_cons _ (.cons _ (List.Sublist.refl _))))⟩)
   first | exact hE | exact ⟨trivial, hE⟩
theorem all3 {g cc gA : Nat} {z : Zs} {a : Addr} {r : Option Nat} (hs : St w0 X (pZ g z (some a) cc :: pL r (some a) cc z :: L) w) (ho : OkZ z) (hA : Cell L gA 0 (.int .i64 3)) :
  Calls Try.prog 60 #[.pointer (some ⟨g, 0, none⟩), .pointer (some ⟨gA, 0, none⟩)] w fun e' w' => True ∧ ER w0 X L g cc a r (manageAllE z 3) e' w' := by
 obtain ⟨ga, oa, ha, hr⟩ := hs.own_at 1 rfl (by have := ho.1; have := ho.2.1; omega)
 obtain rfl : a = ⟨ga, oa, none⟩ := by simpa using ha
 subst hr
 clear ha
 obtain ⟨RL, hRL⟩ : ∃ RL, RL = zcl z (some ⟨ga, oa, none⟩) cc := ⟨_, rfl⟩
 obtain ⟨k, hk⟩ : ∃ n, n = z.l.length := ⟨_, rfl⟩
 have hk1 : k ≤ 4096 := by rw [hk, ho.1]; exact ho.2.2.1
 have hk0 : 1 ≤ k := by rw [hk, ho.1]; exact ho.2.1
 have R5 := Lib.hid (show RL[5]? = some (.slice (some ⟨ga, oa, none⟩) k cc) by rw [hRL, hk]; rfl)
 have e1 : pZ g z (some ⟨ga, oa, none⟩) cc = .blk g 71 RL := by rw [hRL]
 have HA : Hid (∀ (M : List At), Cell (M ++ (.blk g 71 RL :: pL (some ga) (some ⟨ga, oa, none⟩) cc z :: L)) gA 0 (.int .i64 3)) := Lib.hid (fun M => capp M (capp [_, _] hA))
 have BAD : Hid (manageAllE z 3 = (z, 2) → ∀ (w : World), St w0 X (.blk g 71 RL :: pL (some ga) (some ⟨ga, oa, none⟩) cc z :: L) w → ER w0 X L g cc ⟨ga, oa, none⟩ (some ga) (manageAllE z 3) (.panicked (chS 2)) w) := Lib.hid (fun he w hs => by
  rw [← e1] at hs
  exact .inr (by rw [he]; exact ⟨(show (2 : Nat) ≠ 0 by decide), rfl, z, hs⟩))
 rw [e1] at hs
 have E1 := Lib.hid e1
 have HK := Lib.hid hk
 have HRL := Lib.hid hRL
 clear hRL hA e1
 obtain ⟨NL, hNL⟩ : ∃ N, N = numsT (fun x => (conL (3 : Int)).contains (x.st : Int)) z.l k := ⟨_, rfl⟩
 have HNE := Lib.hid (show NL = (List.range z.l.length).filter (fun i => concE 3 (z.l.getD i dz).st) by rw [hNL, hk]; exact nums_eq 3 (by decide) z.l)
 have HNL : Hid (∀ j, (h : j < NL.length) → NL[j] < k) := Lib.hid (fun j h => by subst hNL; exact numsT_lt h)
 have HNN := Lib.hid (show NL.length ≤ k by rw [hNL]; exact numsT_le _ _ _)
 have CN : Hid (∀ (P : List At) (g5 : Nat) (B : Addr) (c : Nat) (w : World), Reads (P ++ (.blk g 71 RL :: pL (some ga) (some ⟨ga, oa, none⟩) cc z :: L)) (some B) (ints (conL 3)) → St w0 X (.blk g5 59 [.slice (some B) (conL 3).length c] :: (P ++ (.blk g 71 RL :: pL (some ga) (some ⟨ga, oa, none⟩) cc z :: L))) w → Calls Try.prog 55 #[.slice (some ⟨ga, oa, none⟩) k cc, .func (.func 62) #[] #[.pointer (some ⟨g5, 0, none⟩)]] w fun e w' => ∃ r B' c', e = .returned (.slice B' NL.length c') ∧ St w0 X (pZ g z (some ⟨ga, oa, none⟩) cc :: pL (some ga) (some ⟨ga, oa, none⟩) cc z :: .own 1 r B' NL.length c' (ivs NL) :: L) w') := Lib.hid (fun P g5 B c w hB hs => by
  refine (numbers_m (p := fun x => (conL (3 : Int)).contains (x.st : Int)) (l := z.l) (bnd := #[.pointer (some ⟨g5, 0, none⟩)]) hs hk (((Reads.own 1 rfl : Reads (.blk g 71 RL :: pL (some ga) (some ⟨ga, oa, none⟩) cc z :: L) (some ⟨ga, oa, none⟩) (ocs z.l)).app P).app [_]) hk1 hk0 (fun x M w hs => all11_st hs rfl ((hB.app [_]).app M) (by decide) (capp M (Cell.blk 0 rfl rfl)) x)).mono ?_
  rintro e w ⟨r, B', c', h1, h2⟩
  rw [← hNL] at h1 h2
  refine ⟨r, B', c', h1, ?_⟩
  have h3 : St w0 X (.own 1 r B' NL.length c' (ivs NL) :: (.blk g 71 RL :: pL (some ga) (some ⟨ga, oa, none⟩) cc z :: L)) w := h2.sub (List.Sublist.cons_cons _ (.cons _ (List.sublist_append_right _ _)))
  rw [E1.out]
  replace h3 := h3.perm ((List.Perm.swap _ _ _).trans (List.Perm.cons _ (List.Perm.swap _ _ _)))
  exact h3)
 have MAE : Hid (∀ zj, runE 3 NL z = (zj, 0) → manageAllE z 3 = (zj, 0)) := Lib.hid (fun zj h => by
  unfold manageAllE
  rw [if_neg (by decide)]
  rw [show ((3 : Int)).toNat = 3 from rfl] 
  rw [← HNE.out, h]; rfl)
 have MAB : Hid (∀ zj c, c ≠ 0 → runE 3 NL z = (zj, c) → manageAllE z 3 = (z, c)) := Lib.hid (fun zj c hc h => by
  unfold manageAllE
  rw [if_neg (by decide)]
  rw [show ((3 : Int)).toNat = 3 from rfl] 
  rw [← HNE.out, h]
  exact if_neg hc)
 have CA : Hid (∀ (zj : Zs) (ii : Nat) (M : List At) (w : World), OkZ zj → ii < zj.l.length → St w0 X (pZ g zj (some ⟨ga, oa, none⟩) cc :: pL (some ga) (some ⟨ga, oa, none⟩) cc zj :: M) w → Calls Try.prog 75 #[.pointer (some ⟨g, 0, none⟩), .int .i64 (ii : Int)] w fun e' w' => True ∧ ER w0 X M g cc ⟨ga, oa, none⟩ (some ga) (actE zj ii 3) e' w') := Lib.hid (fun zj ii M w ho hi hs => explicit_st hs ho hi)
 have HO := Lib.hid ho
 have HK' := Lib.hid hk
 clear BAD hk ho hNL HNE HRL
 go_enter Try.func60, Try.ntmps60
 go_upto_region 0 with (fail)
 refine Ch.region' 8 (fun wx => wx.cell? ⟨gA, 0, none⟩ = some (.int .i64 3)) (fun | 0 => true | 2 => true | _ => false) (by kernel_rfl) (by decide +kernel) (HA.out [] _ hs.drew.hold) ?_
 replace hs := hs.drew
 generalize w.drew = w at hs ⊢
 change Ch.CW _ _ _ _ _ [0, 1, 2, 3, 4, 5, 6, 7] _ _
 refine Ch.noise (by rfl) (by rfl) (by rfl) ?_
 refine Se.gcall (f := 45) (args := #[]) ?_ ?_
 ·go_simp
 refine Calls.mono (actions_st hs) ?_
 clear hs
 rintro e w ⟨gm, rfl, hs⟩
 refine ⟨_, rfl, HA.out [_] _ hs.hold, ?_⟩
 (try simp only [Act.put, List.setIfInBounds_toArray, List.set_cons_zero, List.set_cons_succ])
 iterate 1 ((first | (refine Ch.pure (v := ?_) (by rfl) (by rfl) (by rfl) (fun wx hS => ?_) ?_; rotate_left; (focus (go_simp; (first | done | with_reducible rfl)))) | refine Ch.pure (v := _) (by rfl) (by rfl) (by rfl) (fun wx hS => Se.xl rfl rfl hS (by decide +kernel)) ?_); (try simp only [Act.put, List.setIfInBounds_toArray, List.set_cons_zero, List.set_cons_succ]))
 refine Ch.noise (by rfl) (by rfl) (by rfl) (mlk hs rfl rfl rfl List.mem_cons_self Try.underlying95 Try.underlying48 zAct (show _ = some (some (2, Value.func (.func 75) #[] #[])) by rfl) (v := .func (.func 75) #[] #[]) (b := true) rfl rfl ?_)
 refine ⟨HA.out [_] _ hs.hold, ?_⟩
 (try simp only [Act.put, List.setIfInBounds_toArray, List.set_cons_zero, List.set_cons_succ])
 iterate 5 ((first | (refine Ch.pure (v := ?_) (by rfl) (by rfl) (by rfl) (fun wx hS => ?_) ?_; rotate_left; (focus (go_simp; (first | done | with_reducible rfl))))); (try simp only [Act.put, List.setIfInBounds_toArray, List.set_cons_zero, List.set_cons_succ]))
 refine Ch.done ?_
 try simp only [List.drop_succ_cons, List.drop_zero]
 go_upto_region 1 with (fail)
 go_upto_region 2 with (first | (go_at_call 36; refine Calls.mono (must_t hs 2) ?_; clear hs; rintro e w ⟨rfl, hs⟩))
 replace hs := hs.drop
 go_upto_region 3 with (first | ((with_reducible refine Se.isL (o := ⟨some 16, _, _, _, _, _⟩) ?_); (refine Se.toL rfl (Se.ld (o := ⟨some 16, _, _, _, _, _⟩) hs rfl rfl (HA.out []) (by kernel_rfl) ?_))) | ((with_reducible refine Se.isL (o := ⟨some 5, _, _, _, _, _⟩) ?_); (refine Se.toL rfl (Se.al (o := ⟨some 5, _, _, _, _, _⟩) hs rfl (zSl) ?_); clear hs; rintro w g5 - hs)) | ((with_reducible refine Se.isL (o := ⟨none, _, _, _, _, _⟩) ?_); ((first | refine Se.toL rfl (Se.so 0 (v := .int _ _) hs rfl rfl rfl rfl rfl (by kernel_rfl) (by simp) ?_) | refine Se.toL rfl (Se.so 0 (v := .bool _) hs rfl rfl rfl rfl rfl (by kernel_rfl) (by simp) ?_) | refine Se.toL rfl (Se.so 0 (v := .slice _ _ _) hs rfl rfl rfl rfl rfl (by kernel_rfl) (by simp) ?_) | refine Se.toL rfl (Se.so 0 (v := .pointer _) hs rfl rfl rfl rfl rfl (by kernel_rfl) (by simp) ?_) | refine Se.toL rfl (Se.so 0 (v := .string _) hs rfl rfl rfl rfl rfl (by kernel_rfl) (by simp) ?_) | refine Se.toL rfl (Se.so 0 (v := .map _) hs rfl rfl rfl rfl rfl (by kernel_rfl) (by simp) ?_) | refine Se.toL rfl (Se.so 0 (v := .func _ _ _) hs rfl rfl rfl rfl rfl (by kernel_rfl) (by simp) ?_) | refine Se.toL rfl (Se.so 0 (v := .nilFunc) hs rfl rfl rfl rfl rfl (by kernel_rfl) (by simp) ?_)); clear hs; intro w hs; try simp only [List.cons_append, List.nil_append, List.set_cons_zero] at hs)) | (go_at_call 61; refine Calls.mono (concerned_st hs 3) ?_; clear hs; rintro e w ⟨B, c, P, rfl, hB, hs⟩))
 go_wp2_with (first | ((with_reducible refine Se.isL (o := ⟨some 21, _, _, _, _, _⟩) ?_); (refine Se.toL rfl (Se.ld (o := ⟨some 21, _, _, _, _, _⟩) hs rfl rfl ((capp [_] (capp P (Cell.blk 0 rfl R5.out)))) (by kernel_rfl) ?_))) | (go_at_call 55; refine Calls.mono (CN.out _ _ _ _ _ hB hs) ?_; clear hs; rintro e w ⟨r0, B0, c0, rfl, hs⟩))
 go_loopg [25] NL.length (fun gh s25 wr => ∃ (j : Nat) (zj : Zs), gh = NL.length - j ∧ j ≤ NL.length ∧ s25 = .int .i64 (j : Int) ∧ Hid ((OkZ zj ∧ zj.l.length = k) ∧ runE 3 NL z = runE 3 (NL.drop j) zj) ∧ St w0 X (pZ g zj (some ⟨ga, oa, none⟩) cc :: pL (some ga) (some ⟨ga, oa, none⟩) cc zj :: .own 1 r0 B0 NL.length c0 (ivs NL) :: L) wr)
 case atStart => exact ⟨0, z, rfl, Nat.zero_le _, rfl, Lib.hid ⟨⟨HO.out, HK'.out.symm⟩, rfl⟩, hs⟩
 case round =>
  clear hs
  rename World => w
  obtain ⟨j, zj, rfl, hj, rfl, HZ, hs⟩ := hrel
  obtain ⟨m, hm⟩ : ∃ m, m = NL.length := ⟨_, rfl⟩
  rw [← hm] at hs hj ⊢
  have hmk : m ≤ k := by rw [hm]; exact HNN.out
  by_cases hlt : j < m
  ·have hlt' : (j : Int) < (m : Int) := by omega
   have hjl : j < NL.length := by omega
   obtain ⟨gb, ob, rfl, rfl⟩ := hs.own_at 2 rfl (by omega)
   obtain ⟨ii, hii⟩ : ∃ i, i = NL[j] := ⟨_, rfl⟩
   have HC := Lib.hid (show (ivs NL)[j]? = some (iv ii) by unfold ivs; rw [List.getElem?_map, List.getElem?_eq_getElem hjl, hii]; rfl)
   have hik : ii < zj.l.length := by rw [hii, HZ.out.1.2]; exact HNL.out j hjl
   have CA2 := Lib.hid (fun w hs => CA.out zj ii (.own 1 (some gb) (some ⟨gb, ob, none⟩) m c0 (ivs NL) :: L) w HZ.out.1.1 hik hs)
   have HD : Hid (NL.drop j = ii :: NL.drop (j + 1)) := Lib.hid (by rw [hii]; exact List.drop_eq_getElem_cons hjl)
   have HOA := Lib.hid (HZ.out.1.1.act hik 3)
   have HR := Lib.hid (show runE 3 NL z = if (actE zj ii 3).2 = 0 then runE 3 (NL.drop (j + 1)) (actE zj ii 3).1 else (zj, (actE zj ii 3).2) by rw [HZ.out.2, HD.out, runE_cons])
   have HZ1 := Lib.hid HZ.out.1.2
   obtain ⟨q, hq⟩ : ∃ q, q = actE zj ii 3 := ⟨_, rfl⟩
   rw [← hq] at CA2 HR HOA
   have HM := Lib.hid hm
   clear hii hik hq HD CA hm HZ hjl
   by_cases hq0 : q.2 = 0
   ·have HR2 := Lib.hid (show runE 3 NL z = runE 3 (NL.drop (j + 1)) q.1 by rw [HR.out, if_pos hq0])
    have CA3 : Hid (∀ (w : World), St w0 X (pZ g zj (some ⟨ga, oa, none⟩) cc :: pL (some ga) (some ⟨ga, oa, none⟩) cc zj :: .own 1 (some gb) (some ⟨gb, ob, none⟩) m c0 (ivs NL) :: L) w → Calls Try.prog 75 #[.pointer (some ⟨g, 0, none⟩), .int .i64 (ii : Int)] w fun e' w' => e' = .returned (.tuple #[]) ∧ St w0 X (pZ g q.1 (some ⟨ga, oa, none⟩) cc :: pL (some ga) (some ⟨ga, oa, none⟩) cc q.1 :: .own 1 (some gb) (some ⟨gb, ob, none⟩) m c0 (ivs NL) :: L) w') := Lib.hid (fun w hs => (CA2.out w hs).mono (by
     rintro e w ⟨_, ⟨_, h1, h2⟩ | ⟨h1, _⟩⟩
     ·exact ⟨h1, h2⟩
     ·exact absurd hq0 h1))
    clear CA2 HR hq0
    go_wp2_with (first | ((with_reducible refine Se.isL (o := ⟨some 28, _, _, _, _, _⟩) ?_); (refine Se.toL rfl (Se.ld (o := ⟨some 28, _, _, _, _, _⟩) hs rfl rfl (((Reads.own 2 rfl).cell j HC.out)) (by kernel_rfl) ?_))) | (go_at_call 75; refine Calls.mono (CA3.out _ hs) ?_; clear hs; rintro e w ⟨rfl, hs⟩))
    rw [HM.out] at hs ⊢
    go_roundg (NL.length - (j + 1))
    case measure => rw [HM.out] at hlt; omega
    case rel => exact ⟨j + 1, q.1, rfl, by rw [HM.out] at hlt; omega, by go_num, Lib.hid ⟨⟨HOA.out.1, by rw [HOA.out.2.2.2, HZ1.out]⟩, HR2.out⟩, hs⟩
   ·have HF := Lib.hid (MAB.out zj q.2 hq0 (by rw [HR.out, if_neg hq0]))
    have CA3 : Hid (∀ (w : World), St w0 X (pZ g zj (some ⟨ga, oa, none⟩) cc :: pL (some ga) (some ⟨ga, oa, none⟩) cc zj :: .own 1 (some gb) (some ⟨gb, ob, none⟩) m c0 (ivs NL) :: L) w → Calls Try.prog 75 #[.pointer (some ⟨g, 0, none⟩), .int .i64 (ii : Int)] w fun e' w' => e' = .panicked (chS q.2) ∧ ER w0 X L g cc ⟨ga, oa, none⟩ (some ga) (manageAllE z 3) (.panicked (chS q.2)) w') := Lib.hid (fun w hs => (CA2.out w hs).mono (by
     rintro e w ⟨_, ⟨h1, _⟩ | ⟨_, h1, z', h2⟩⟩
     ·exact absurd h1 hq0
     ·exact ⟨h1, .inr (by rw [HF.out]; exact ⟨hq0, rfl, z', h2.sub (List.Sublist.cons_cons _ (List.Sublist.cons_cons _ (.cons _ (List.Sublist.refl _))))⟩)⟩))
    clear CA2 HR hq0
    go_wp2_with (first | ((with_reducible refine Se.isL (o := ⟨some 28, _, _, _, _, _⟩) ?_); (refine Se.toL rfl (Se.ld (o := ⟨some 28, _, _, _, _, _⟩) hs rfl rfl (((Reads.own 2 rfl).cell j HC.out)) (by kernel_rfl) ?_))) | (go_at_call 75; refine Calls.mono (CA3.out _ hs) ?_; clear hs; rintro e w ⟨rfl, hE⟩))
    exact ⟨rfl, trivial, hE⟩
  ·obtain rfl : j = m := by omega
   have HF := Lib.hid (MAE.out zj (by rw [HZ.out.2, hm, List.drop_length, runE]))
   clear hm HZ CA
   go_wp2_with fail
   go_end0
   have hE : ER w0 X L g cc ⟨ga, oa, none⟩ (some ga) (manageAllE z 3) (.returned (.tuple #[])) w := .inl (by rw [HF.out]; exact ⟨rfl, rfl, hs.sub (List.Sublist.cons_cons _ (List.Sublist.cons_cons _ (.cons _ (List.Sublist.refl _))))⟩)
   first | exact hE | exact ⟨trivial, hE⟩
theorem all4 {g cc gA : Nat} {z : Zs} {a : Addr} {r : Option Nat} (hs : St w0 X (pZ g z (some a) cc :: pL r (some a) cc z :: L) w) (ho : OkZ z) (hA : Cell L gA 0 (.int .i64 4)) :
  Calls Try.prog 60 #[.pointer (some ⟨g, 0, none⟩), .pointer (some ⟨gA, 0, none⟩)] w fun e' w' => True ∧ ER w0 X L g cc a r (manageAllE z 4) e' w' := by
 obtain ⟨ga, oa, ha, hr⟩ := hs.own_at 1 rfl (by have := ho.1; have := ho.2.1; omega)
 obtain rfl : a = ⟨ga, oa, none⟩ := by simpa using ha
 subst hr
 clear ha
 obtain ⟨RL, hRL⟩ : ∃ RL, RL = zcl z (some ⟨ga, oa, none⟩) cc := ⟨_, rfl⟩
 obtain ⟨k, hk⟩ : ∃ n, n = z.l.length := ⟨_, rfl⟩
 have hk1 : k ≤ 4096 := by rw [hk, ho.1]; exact ho.2.2.1
 have hk0 : 1 ≤ k := by rw [hk, ho.1]; exact ho.2.1
 have R5 := Lib.hid (show RL[5]? = some (.slice (some ⟨ga, oa, none⟩) k cc) by rw [hRL, hk]; rfl)
 have e1 : pZ g z (some ⟨ga, oa, none⟩) cc = .blk g 71 RL := by rw [hRL]
 have HA : Hid (∀ (M : List At), Cell (M ++ (.blk g 71 RL :: pL (some ga) (some ⟨ga, oa, none⟩) cc z :: L)) gA 0 (.int .i64 4)) := Lib.hid (fun M => capp M (capp [_, _] hA))
 have BAD : Hid (manageAllE z 4 = (z, 2) → ∀ (w : World), St w0 X (.blk g 71 RL :: pL (some ga) (some ⟨ga, oa, none⟩) cc z :: L) w → ER w0 X L g cc ⟨ga, oa, none⟩ (some ga) (manageAllE z 4) (.panicked (chS 2)) w) := Lib.hid (fun he w hs => by
  rw [← e1] at hs
  exact .inr (by rw [he]; exact ⟨(show (2 : Nat) ≠ 0 by decide), rfl, z, hs⟩))
 rw [e1] at hs
 have E1 := Lib.hid e1
 have HK := Lib.hid hk
 have HRL := Lib.hid hRL
 clear hRL hA e1
 obtain ⟨NL, hNL⟩ : ∃ N, N = numsT (fun x => (conL (4 : Int)).contains (x.st : Int)) z.l k := ⟨_, rfl⟩
 have HNE := Lib.hid (show NL = (List.range z.l.length).filter (fun i => concE 4 (z.l.getD i dz).st) by rw [hNL, hk]; exact nums_eq 4 (by decide) z.l)
 have HNL : Hid (∀ j, (h : j < NL.length) → NL[j] < k) := Lib.hid (fun j h => by subst hNL; exact numsT_lt h)
 have HNN := Lib.hid (show NL.length ≤ k by rw [hNL]; exact numsT_le _ _ _)
 have CN : Hid (∀ (P : List At) (g5 : Nat) (B : Addr) (c : Nat) (w : World), Reads (P ++ (.blk g 71 RL :: pL (some ga) (some ⟨ga, oa, none⟩) cc z :: L)) (some B) (ints (conL 4)) → St w0 X (.blk g5 59 [.slice (some B) (conL 4).length c] :: (P ++ (.blk g 71 RL :: pL (some ga) (some ⟨ga, oa, none⟩) cc z :: L))) w → Calls Try.prog 55 #[.slice (some ⟨ga, oa, none⟩) k cc, .func (.func 62) #[] #[.pointer (some ⟨g5, 0, none⟩)]] w fun e w' => ∃ r B' c', e = .returned (.slice B' NL.length c') ∧ St w0 X (pZ g z (some ⟨ga, oa, none⟩) cc :: pL (some ga) (some ⟨ga, oa, none⟩) cc z :: .own 1 r B' NL.length c' (ivs NL) :: L) w') := Lib.hid (fun P g5 B c w hB hs => by
  refine (numbers_m (p := fun x => (conL (4 : Int)).contains (x.st : Int)) (l := z.l) (bnd := #[.pointer (some ⟨g5, 0, none⟩)]) hs hk (((Reads.own 1 rfl : Reads (.blk g 71 RL :: pL (some ga) (some ⟨ga, oa, none⟩) cc z :: L) (some ⟨ga, oa, none⟩) (ocs z.l)).app P).app [_]) hk1 hk0 (fun x M w hs => all11_st hs rfl ((hB.app [_]).app M) (by decide) (capp M (Cell.blk 0 rfl rfl)) x)).mono ?_
  rintro e w ⟨r, B', c', h1, h2⟩
  rw [← hNL] at h1 h2
  refine ⟨r, B', c', h1, ?_⟩
  have h3 : St w0 X (.own 1 r B' NL.length c' (ivs NL) :: (.blk g 71 RL :: pL (some ga) (some ⟨ga, oa, none⟩) cc z :: L)) w := h2.sub (List.Sublist.cons_cons _ (.cons _ (List.sublist_append_right _ _)))
  rw [E1.out]
  replace h3 := h3.perm ((List.Perm.swap _ _ _).trans (List.Perm.cons _ (List.Perm.swap _ _ _)))
  exact h3)
 have MAE : Hid (∀ zj, runE 4 NL z = (zj, 0) → manageAllE z 4 = (zj, 0)) := Lib.hid (fun zj h => by
  unfold manageAllE
  rw [if_neg (by decide)]
  rw [show ((4 : Int)).toNat = 4 from rfl] 
  rw [← HNE.out, h]; rfl)
 have MAB : Hid (∀ zj c, c ≠ 0 → runE 4 NL z = (zj, c) → manageAllE z 4 = (z, c)) := Lib.hid (fun zj c hc h => by
  unfold manageAllE
  rw [if_neg (by decide)]
  rw [show ((4 : Int)).toNat = 4 from rfl] 
  rw [← HNE.out, h]
  exact if_neg hc)
 have CA : Hid (∀ (zj : Zs) (ii : Nat) (M : List At) (w : World), OkZ zj → ii < zj.l.length → St w0 X (pZ g zj (some ⟨ga, oa, none⟩) cc :: pL (some ga) (some ⟨ga, oa, none⟩) cc zj :: M) w → Calls Try.prog 76 #[.pointer (some ⟨g, 0, none⟩), .int .i64 (ii : Int)] w fun e' w' => True ∧ ER w0 X M g cc ⟨ga, oa, none⟩ (some ga) (actE zj ii 4) e' w') := Lib.hid (fun zj ii M w ho hi hs => reset_st hs ho hi)
 have HO := Lib.hid ho
 have HK' := Lib.hid hk
 clear BAD hk ho hNL HNE HRL
 go_enter Try.func60, Try.ntmps60
 go_upto_region 0 with (fail)
 refine Ch.region' 8 (fun wx => wx.cell? ⟨gA, 0, none⟩ = some (.int .i64 4)) (fun | 0 => true | 2 => true | _ => false) (by kernel_rfl) (by decide +kernel) (HA.out [] _ hs.drew.hold) ?_
 replace hs := hs.drew
 generalize w.drew = w at hs ⊢
 change Ch.CW _ _ _ _ _ [0, 1, 2, 3, 4, 5, 6, 7] _ _
 refine Ch.noise (by rfl) (by rfl) (by rfl) ?_
 refine Se.gcall (f := 45) (args := #[]) ?_ ?_
 ·go_simp
 refine Calls.mono (actions_st hs) ?_
 clear hs
 rintro e w ⟨gm, rfl, hs⟩
 refine ⟨_, rfl, HA.out [_] _ hs.hold, ?_⟩
 (try simp only [Act.put, List.setIfInBounds_toArray, List.set_cons_zero, List.set_cons_succ])
 iterate 1 ((first | (refine Ch.pure (v := ?_) (by rfl) (by rfl) (by rfl) (fun wx hS => ?_) ?_; rotate_left; (focus (go_simp; (first | done | with_reducible rfl)))) | refine Ch.pure (v := _) (by rfl) (by rfl) (by rfl) (fun wx hS => Se.xl rfl rfl hS (by decide +kernel)) ?_); (try simp only [Act.put, List.setIfInBounds_toArray, List.set_cons_zero, List.set_cons_succ]))
 refine Ch.noise (by rfl) (by rfl) (by rfl) (mlk hs rfl rfl rfl List.mem_cons_self Try.underlying95 Try.underlying48 zAct (show _ = some (some (3, Value.func (.func 76) #[] #[])) by rfl) (v := .func (.func 76) #[] #[]) (b := true) rfl rfl ?_)
 refine ⟨HA.out [_] _ hs.hold, ?_⟩
 (try simp only [Act.put, List.setIfInBounds_toArray, List.set_cons_zero, List.set_cons_succ])
 iterate 5 ((first | (refine Ch.pure (v := ?_) (by rfl) (by rfl) (by rfl) (fun wx hS => ?_) ?_; rotate_left; (focus (go_simp; (first | done | with_reducible rfl))))); (try simp only [Act.put, List.setIfInBounds_toArray, List.set_cons_zero, List.set_cons_succ]))
 refine Ch.done ?_
 try simp only [List.drop_succ_cons, List.drop_zero]
 go_upto_region 1 with (fail)
 go_upto_region 2 with (first | (go_at_call 36; refine Calls.mono (must_t hs 2) ?_; clear hs; rintro e w ⟨rfl, hs⟩))
 replace hs := hs.drop
 go_upto_region 3 with (first | ((with_reducible refine Se.isL (o := ⟨some 16, _, _, _, _, _⟩) ?_); (refine Se.toL rfl (Se.ld (o := ⟨some 16, _, _, _, _, _⟩) hs rfl rfl (HA.out []) (by kernel_rfl) ?_))) | ((with_reducible refine Se.isL (o := ⟨some 5, _, _, _, _, _⟩) ?_); (refine Se.toL rfl (Se.al (o := ⟨some 5, _, _, _, _, _⟩) hs rfl (zSl) ?_); clear hs; rintro w g5 - hs)) | ((with_reducible refine Se.isL (o := ⟨none, _, _, _, _, _⟩) ?_); ((first | refine Se.toL rfl (Se.so 0 (v := .int _ _) hs rfl rfl rfl rfl rfl (by kernel_rfl) (by simp) ?_) | refine Se.toL rfl (Se.so 0 (v := .bool _) hs rfl rfl rfl rfl rfl (by kernel_rfl) (by simp) ?_) | refine Se.toL rfl (Se.so 0 (v := .slice _ _ _) hs rfl rfl rfl rfl rfl (by kernel_rfl) (by simp) ?_) | refine Se.toL rfl (Se.so 0 (v := .pointer _) hs rfl rfl rfl rfl rfl (by kernel_rfl) (by simp) ?_) | refine Se.toL rfl (Se.so 0 (v := .string _) hs rfl rfl rfl rfl rfl (by kernel_rfl) (by simp) ?_) | refine Se.toL rfl (Se.so 0 (v := .map _) hs rfl rfl rfl rfl rfl (by kernel_rfl) (by simp) ?_) | refine Se.toL rfl (Se.so 0 (v := .func _ _ _) hs rfl rfl rfl rfl rfl (by kernel_rfl) (by simp) ?_) | refine Se.toL rfl (Se.so 0 (v := .nilFunc) hs rfl rfl rfl rfl rfl (by kernel_rfl) (by simp) ?_)); clear hs; intro w hs; try simp only [List.cons_append, List.nil_append, List.set_cons_zero] at hs)) | (go_at_call 61; refine Calls.mono (concerned_st hs 4) ?_; clear hs; rintro e w ⟨B, c, P, rfl, hB, hs⟩))
 go_wp2_with (first | ((with_reducible refine Se.isL (o := ⟨some 21, _, _, _, _, _⟩) ?_); (refine Se.toL rfl (Se.ld (o := ⟨some 21, _, _, _, _, _⟩) hs rfl rfl ((capp [_] (capp P (Cell.blk 0 rfl R5.out)))) (by kernel_rfl) ?_))) | (go_at_call 55; refine Calls.mono (CN.out _ _ _ _ _ hB hs) ?_; clear hs; rintro e w ⟨r0, B0, c0, rfl, hs⟩))
 go_loopg [25] NL.length (fun gh s25 wr => ∃ (j : Nat) (zj : Zs), gh = NL.length - j ∧ j ≤ NL.length ∧ s25 = .int .i64 (j : Int) ∧ Hid ((OkZ zj ∧ zj.l.length = k) ∧ runE 4 NL z = runE 4 (NL.drop j) zj) ∧ St w0 X (pZ g zj (some ⟨ga, oa, none⟩) cc :: pL (some ga) (some ⟨ga, oa, none⟩) cc zj :: .own 1 r0 B0 NL.length c0 (ivs NL) :: L) wr)
 case atStart => exact ⟨0, z, rfl, Nat.zero_le _, rfl, Lib.hid ⟨⟨HO.out, HK'.out.symm⟩, rfl⟩, hs⟩
 case round =>
  clear hs
  rename World => w
  obtain ⟨j, zj, rfl, hj, rfl, HZ, hs⟩ := hrel
  obtain ⟨m, hm⟩ : ∃ m, m = NL.length := ⟨_, rfl⟩
  rw [← hm] at hs hj ⊢
  have hmk : m ≤ k := by rw [hm]; exact HNN.out
  by_cases hlt : j < m
  ·have hlt' : (j : Int) < (m : Int) := by omega
   have hjl : j < NL.length := by omega
   obtain ⟨gb, ob, rfl, rfl⟩ := hs.own_at 2 rfl (by omega)
   obtain ⟨ii, hii⟩ : ∃ i, i = NL[j] := ⟨_, rfl⟩
   have HC := Lib.hid (show (ivs NL)[j]? = some (iv ii) by unfold ivs; rw [List.getElem?_map, List.getElem?_eq_getElem hjl, hii]; rfl)
   have hik : ii < zj.l.length := by rw [hii, HZ.out.1.2]; exact HNL.out j hjl
   have CA2 := Lib.hid (fun w hs => CA.out zj ii (.own 1 (some gb) (some ⟨gb, ob, none⟩) m c0 (ivs NL) :: L) w HZ.out.1.1 hik hs)
   have HD : Hid (NL.drop j = ii :: NL.drop (j + 1)) := Lib.hid (by rw [hii]; exact List.drop_eq_getElem_cons hjl)
   have HOA := Lib.hid (HZ.out.1.1.act hik 4)
   have HR := Lib.hid (show runE 4 NL z = if (actE zj ii 4).2 = 0 then runE 4 (NL.drop (j + 1)) (actE zj ii 4).1 else (zj, (actE zj ii 4).2) by rw [HZ.out.2, HD.out, runE_cons])
   have HZ1 := Lib.hid HZ.out.1.2
   obtain ⟨q, hq⟩ : ∃ q, q = actE zj ii 4 := ⟨_, rfl⟩
   rw [← hq] at CA2 HR HOA
   have HM := Lib.hid hm
   clear hii hik hq HD CA hm HZ hjl
   by_cases hq0 : q.2 = 0
   ·have HR2 := Lib.hid (show runE 4 NL z = runE 4 (NL.drop (j + 1)) q.1 by rw [HR.out, if_pos hq0])
    have CA3 : Hid (∀ (w : World), St w0 X (pZ g zj (some ⟨ga, oa, none⟩) cc :: pL (some ga) (some ⟨ga, oa, none⟩) cc zj :: .own 1 (some gb) (some ⟨gb, ob, none⟩) m c0 (ivs NL) :: L) w → Calls Try.prog 76 #[.pointer (some ⟨g, 0, none⟩), .int .i64 (ii : Int)] w fun e' w' => e' = .returned (.tuple #[]) ∧ St w0 X (pZ g q.1 (some ⟨ga, oa, none⟩) cc :: pL (some ga) (some ⟨ga, oa, none⟩) cc q.1 :: .own 1 (some gb) (some ⟨gb, ob, none⟩) m c0 (ivs NL) :: L) w') := Lib.hid (fun w hs => (CA2.out w hs).mono (by
     rintro e w ⟨_, ⟨_, h1, h2⟩ | ⟨h1, _⟩⟩
     ·exact ⟨h1, h2⟩
     ·exact absurd hq0 h1))
    clear CA2 HR hq0
    go_wp2_with (first | ((with_reducible refine Se.isL (o := ⟨some 28, _, _, _, _, _⟩) ?_); (refine Se.toL rfl (Se.ld (o := ⟨some 28, _, _, _, _, _⟩) hs rfl rfl (((Reads.own 2 rfl).cell j HC.out)) (by kernel_rfl) ?_))) | (go_at_call 76; refine Calls.mono (CA3.out _ hs) ?_; clear hs; rintro e w ⟨rfl, hs⟩))
    rw [HM.out] at hs ⊢
    go_roundg (NL.length - (j + 1))
    case measure => rw [HM.out] at hlt; omega
    case rel => exact ⟨j + 1, q.1, rfl, by rw [HM.out] at hlt; omega, by go_num, Lib.hid ⟨⟨HOA.out.1, by rw [HOA.out.2.2.2, HZ1.out]⟩, HR2.out⟩, hs⟩
   ·have HF := Lib.hid (MAB.out zj q.2 hq0 (by rw [HR.out, if_neg hq0]))
    have CA3 : Hid (∀ (w : World), St w0 X (pZ g zj (some ⟨ga, oa, none⟩) cc :: pL (some ga) (some ⟨ga, oa, none⟩) cc zj :: .own 1 (some gb) (some ⟨gb, ob, none⟩) m c0 (ivs NL) :: L) w → Calls Try.prog 76 #[.pointer (some ⟨g, 0, none⟩), .int .i64 (ii : Int)] w fun e' w' => e' = .panicked (chS q.2) ∧ ER w0 X L g cc ⟨ga, oa, none⟩ (some ga) (manageAllE z 4) (.panicked (chS q.2)) w') := Lib.hid (fun w hs => (CA2.out w hs).mono (by
     rintro e w ⟨_, ⟨h1, _⟩ | ⟨_, h1, z', h2⟩⟩
     ·exact absurd h1 hq0
     ·exact ⟨h1, .inr (by rw [HF.out]; exact ⟨hq0, rfl, z', h2.sub (List.Sublist.cons_cons _ (List.Sublist.cons_cons _ (.cons _ (List.Sublist.refl _))))⟩)⟩))
    clear CA2 HR hq0
    go_wp2_with (first | ((with_reducible refine Se.isL (o := ⟨some 28, _, _, _, _, _⟩) ?_); (refine Se.toL rfl (Se.ld (o := ⟨some 28, _, _, _, _, _⟩) hs rfl rfl (((Reads.own 2 rfl).cell j HC.out)) (by kernel_rfl) ?_))) | (go_at_call 76; refine Calls.mono (CA3.out _ hs) ?_; clear hs; rintro e w ⟨rfl, hE⟩))
    exact ⟨rfl, trivial, hE⟩
  ·obtain rfl : j = m := by omega
   have HF := Lib.hid (MAE.out zj (by rw [HZ.out.2, hm, List.drop_length, runE]))
   clear hm HZ CA
   go_wp2_with fail
   go_end0
   have hE : ER w0 X L g cc ⟨ga, oa, none⟩ (some ga) (manageAllE z 4) (.returned (.tuple #[])) w := .inl (by rw [HF.out]; exact ⟨rfl, rfl, hs.sub (List.Sublist.cons_cons _ (List.Sublist.cons_cons _ (.cons _ (List.Sublist.refl _))))⟩)
   first | exact hE | exact ⟨trivial, hE⟩
theorem all5 {g cc gA : Nat} {z : Zs} {a : Addr} {r : Option Nat} (hs : St w0 X (pZ g z (some a) cc :: pL r (some a) cc z :: L) w) (ho : OkZ z) (hA : Cell L gA 0 (.int .i64 5)) :
  Calls Try.prog 60 #[.pointer (some ⟨g, 0, none⟩), .pointer (some ⟨gA, 0, none⟩)] w fun e' w' => True ∧ ER w0 X L g cc a r (manageAllE z 5) e' w' := by
 obtain ⟨ga, oa, ha, hr⟩ := hs.own_at 1 rfl (by have := ho.1; have := ho.2.1; omega)
 obtain rfl : a = ⟨ga, oa, none⟩ := by simpa using ha
 subst hr
 clear ha
 obtain ⟨RL, hRL⟩ : ∃ RL, RL = zcl z (some ⟨ga, oa, none⟩) cc := ⟨_, rfl⟩
 obtain ⟨k, hk⟩ : ∃ n, n = z.l.length := ⟨_, rfl⟩
 have hk1 : k ≤ 4096 := by rw [hk, ho.1]; exact ho.2.2.1
 have hk0 : 1 ≤ k := by rw [hk, ho.1]; exact ho.2.1
 have R5 := Lib.hid (show RL[5]? = some (.slice (some ⟨ga, oa, none⟩) k cc) by rw [hRL, hk]; rfl)
 have e1 : pZ g z (some ⟨ga, oa, none⟩) cc = .blk g 71 RL := by rw [hRL]
 have HA : Hid (∀ (M : List At), Cell (M ++ (.blk g 71 RL :: pL (some ga) (some ⟨ga, oa, none⟩) cc z :: L)) gA 0 (.int .i64 5)) := Lib.hid (fun M => capp M (capp [_, _] hA))
 have BAD : Hid (manageAllE z 5 = (z, 2) → ∀ (w : World), St w0 X (.blk g 71 RL :: pL (some ga) (some ⟨ga, oa, none⟩) cc z :: L) w → ER w0 X L g cc ⟨ga, oa, none⟩ (some ga) (manageAllE z 5) (.panicked (chS 2)) w) := Lib.hid (fun he w hs => by
  rw [← e1] at hs
  exact .inr (by rw [he]; exact ⟨(show (2 : Nat) ≠ 0 by decide), rfl, z, hs⟩))
 rw [e1] at hs
 have E1 := Lib.hid e1
 have HK := Lib.hid hk
 have HRL := Lib.hid hRL
 clear hRL hA e1
 obtain ⟨NL, hNL⟩ : ∃ N, N = numsT (fun x => (conL (5 : Int)).contains (x.st : Int)) z.l k := ⟨_, rfl⟩
 have HNE := Lib.hid (show NL = (List.range z.l.length).filter (fun i => concE 5 (z.l.getD i dz).st) by rw [hNL, hk]; exact nums_eq 5 (by decide) z.l)
 have HNL : Hid (∀ j, (h : j < NL.length) → NL[j] < k) := Lib.hid (fun j h => by subst hNL; exact numsT_lt h)
 have HNN := Lib.hid (show NL.length ≤ k by rw [hNL]; exact numsT_le _ _ _)
 have CN : Hid (∀ (P : List At) (g5 : Nat) (B : Addr) (c : Nat) (w : World), Reads (P ++ (.blk g 71 RL :: pL (some ga) (some ⟨ga, oa, none⟩) cc z :: L)) (some B) (ints (conL 5)) → St w0 X (.blk g5 59 [.slice (some B) (conL 5).length c] :: (P ++ (.blk g 71 RL :: pL (some ga) (some ⟨ga, oa, none⟩) cc z :: L))) w → Calls Try.prog 55 #[.slice (some ⟨ga, oa, none⟩) k cc, .func (.func 62) #[] #[.pointer (some ⟨g5, 0, none⟩)]] w fun e w' => ∃ r B' c', e = .returned (.slice B' NL.length c') ∧ St w0 X (pZ g z (some ⟨ga, oa, none⟩) cc :: pL (some ga) (some ⟨ga, oa, none⟩) cc z :: .own 1 r B' NL.length c' (ivs NL) :: L) w') := Lib.hid (fun P g5 B c w hB hs => by
  refine (numbers_m (p := fun x => (conL (5 : Int)).contains (x.st : Int)) (l := z.l) (bnd := #[.pointer (some ⟨g5, 0, none⟩)]) hs hk (((Reads.own 1 rfl : Reads (.blk g 71 RL :: pL (some ga) (some ⟨ga, oa, none⟩) cc z :: L) (some ⟨ga, oa, none⟩) (ocs z.l)).app P).app [_]) hk1 hk0 (fun x M w hs => all11_st hs rfl ((hB.app [_]).app M) (by decide) (capp M (Cell.blk 0 rfl rfl)) x)).mono ?_
  rintro e w ⟨r, B', c', h1, h2⟩
  rw [← hNL] at h1 h2
  refine ⟨r, B', c', h1, ?_⟩
  have h3 : St w0 X (.own 1 r B' NL.length c' (ivs NL) :: (.blk g 71 RL :: pL (some ga) (some ⟨ga, oa, none⟩) cc z :: L)) w := h2.sub (List.Sublist.cons_cons _ (.cons _ (List.sublist_append_right _ _)))
  rw [E1.out]
  replace h3 := h3.perm ((List.Perm.swap _ _ _).trans (List.Perm.cons _ (List.Perm.swap _ _ _)))
  exact h3)
 have MAE : Hid (∀ zj, runE 5 NL z = (zj, 0) → manageAllE z 5 = (zj, 0)) := Lib.hid (fun zj h => by
  unfold manageAllE
  rw [if_neg (by decide)]
  rw [show ((5 : Int)).toNat = 5 from rfl] 
  rw [← HNE.out, h]; rfl)
 have MAB : Hid (∀ zj c, c ≠ 0 → runE 5 NL z = (zj, c) → manageAllE z 5 = (z, c)) := Lib.hid (fun zj c hc h => by
  unfold manageAllE
  rw [if_neg (by decide)]
  rw [show ((5 : Int)).toNat = 5 from rfl] 
  rw [← HNE.out, h]
  exact if_neg hc)
 have CA : Hid (∀ (zj : Zs) (ii : Nat) (M : List At) (w : World), OkZ zj → ii < zj.l.length → St w0 X (pZ g zj (some ⟨ga, oa, none⟩) cc :: pL (some ga) (some ⟨ga, oa, none⟩) cc zj :: M) w → Calls Try.prog 77 #[.pointer (some ⟨g, 0, none⟩), .int .i64 (ii : Int)] w fun e' w' => True ∧ ER w0 X M g cc ⟨ga, oa, none⟩ (some ga) (actE zj ii 5) e' w') := Lib.hid (fun zj ii M w ho hi hs => drop_st hs ho hi)
 have HO := Lib.hid ho
 have HK' := Lib.hid hk
 clear BAD hk ho hNL HNE HRL
 go_enter Try.func60, Try.ntmps60
 go_upto_region 0 with (fail)
 refine Ch.region' 8 (fun wx => wx.cell? ⟨gA, 0, none⟩ = some (.int .i64 5)) (fun | 0 => true | 2 => true | _ => false) (by kernel_rfl) (by decide +kernel) (HA.out [] _ hs.drew.hold) ?_
 replace hs := hs.drew
 generalize w.drew = w at hs ⊢
 change Ch.CW _ _ _ _ _ [0, 1, 2, 3, 4, 5, 6, 7] _ _
 refine Ch.noise (by rfl) (by rfl) (by rfl) ?_
 refine Se.gcall (f := 45) (args := #[]) ?_ ?_
 ·go_simp
 refine Calls.mono (actions_st hs) ?_
 clear hs
 rintro e w ⟨gm, rfl, hs⟩
 refine ⟨_, rfl, HA.out [_] _ hs.hold, ?_⟩
 (try simp only [Act.put, List.setIfInBounds_toArray, List.set_cons_zero, List.set_cons_succ])
 iterate 1 ((first | (refine Ch.pure (v := ?_) (by rfl) (by rfl) (by rfl) (fun wx hS => ?_) ?_; rotate_left; (focus (go_simp; (first | done | with_reducible rfl)))) | refine Ch.pure (v := _) (by rfl) (by rfl) (by rfl) (fun wx hS => Se.xl rfl rfl hS (by decide +kernel)) ?_); (try simp only [Act.put, List.setIfInBounds_toArray, List.set_cons_zero, List.set_cons_succ]))
 refine Ch.noise (by rfl) (by rfl) (by rfl) (mlk hs rfl rfl rfl List.mem_cons_self Try.underlying95 Try.underlying48 zAct (show _ = some (some (4, Value.func (.func 77) #[] #[])) by rfl) (v := .func (.func 77) #[] #[]) (b := true) rfl rfl ?_)
 refine ⟨HA.out [_] _ hs.hold, ?_⟩
 (try simp only [Act.put, List.setIfInBounds_toArray, List.set_cons_zero, List.set_cons_succ])
 iterate 5 ((first | (refine Ch.pure (v := ?_) (by rfl) (by rfl) (by rfl) (fun wx hS => ?_) ?_; rotate_left; (focus (go_simp; (first | done | with_reducible rfl))))); (try simp only [Act.put, List.setIfInBounds_toArray, List.set_cons_zero, List.set_cons_succ]))
 refine Ch.done ?_
 try simp only [List.drop_succ_cons, List.drop_zero]
 go_upto_region 1 with (fail)
 go_upto_region 2 with (first | (go_at_call 36; refine Calls.mono (must_t hs 2) ?_; clear hs; rintro e w ⟨rfl, hs⟩))
 replace hs := hs.drop
 go_upto_region 3 with (first | ((with_reducible refine Se.isL (o := ⟨some 16, _, _, _, _, _⟩) ?_); (refine Se.toL rfl (Se.ld (o := ⟨some 16, _, _, _, _, _⟩) hs rfl rfl (HA.out []) (by kernel_rfl) ?_))) | ((with_reducible refine Se.isL (o := ⟨some 5, _, _, _, _, _⟩) ?_); (refine Se.toL rfl (Se.al (o := ⟨some 5, _, _, _, _, _⟩) hs rfl (zSl) ?_); clear hs; rintro w g5 - hs)) | ((with_reducible refine Se.isL (o := ⟨none, _, _, _, _, _⟩) ?_); ((first | refine Se.toL rfl (Se.so 0 (v := .int _ _) hs rfl rfl rfl rfl rfl (by kernel_rfl) (by simp) ?_) | refine Se.toL rfl (Se.so 0 (v := .bool _) hs rfl rfl rfl rfl rfl (by kernel_rfl) (by simp) ?_) | refine Se.toL rfl (Se.so 0 (v := .slice _ _ _) hs rfl rfl rfl rfl rfl (by kernel_rfl) (by simp) ?_) | refine Se.toL rfl (Se.so 0 (v := .pointer _) hs rfl rfl rfl rfl rfl (by kernel_rfl) (by simp) ?_) | refine Se.toL rfl (Se.so 0 (v := .string _) hs rfl rfl rfl rfl rfl (by kernel_rfl) (by simp) ?_) | refine Se.toL rfl (Se.so 0 (v := .map _) hs rfl rfl rfl rfl rfl (by kernel_rfl) (by simp) ?_) | refine Se.toL rfl (Se.so 0 (v := .func _ _ _) hs rfl rfl rfl rfl rfl (by kernel_rfl) (by simp) ?_) | refine Se.toL rfl (Se.so 0 (v := .nilFunc) hs rfl rfl rfl rfl rfl (by kernel_rfl) (by simp) ?_)); clear hs; intro w hs; try simp only [List.cons_append, List.nil_append, List.set_cons_zero] at hs)) | (go_at_call 61; refine Calls.mono (concerned_st hs 5) ?_; clear hs; rintro e w ⟨B, c, P, rfl, hB, hs⟩))
 go_wp2_with (first | ((with_reducible refine Se.isL (o := ⟨some 21, _, _, _, _, _⟩) ?_); (refine Se.toL rfl (Se.ld (o := ⟨some 21, _, _, _, _, _⟩) hs rfl rfl ((capp [_] (capp P (Cell.blk 0 rfl R5.out)))) (by kernel_rfl) ?_))) | (go_at_call 55; refine Calls.mono (CN.out _ _ _ _ _ hB hs) ?_; clear hs; rintro e w ⟨r0, B0, c0, rfl, hs⟩))
 go_loopg [25] NL.length (fun gh s25 wr => ∃ (j : Nat) (zj : Zs), gh = NL.length - j ∧ j ≤ NL.length ∧ s25 = .int .i64 (j : Int) ∧ Hid ((OkZ zj ∧ zj.l.length = k) ∧ runE 5 NL z = runE 5 (NL.drop j) zj) ∧ St w0 X (pZ g zj (some ⟨ga, oa, none⟩) cc :: pL (some ga) (some ⟨ga, oa, none⟩) cc zj :: .own 1 r0 B0 NL.length c0 (ivs NL) :: L) wr)
 case atStart => exact ⟨0, z, rfl, Nat.zero_le _, rfl, Lib.hid ⟨⟨HO.out, HK'.out.symm⟩, rfl⟩, hs⟩
 case round =>
  clear hs
  rename World => w
  obtain ⟨j, zj, rfl, hj, rfl, HZ, hs⟩ := hrel
  obtain ⟨m, hm⟩ : ∃ m, m = NL.length := ⟨_, rfl⟩
  rw [← hm] at hs hj ⊢
  have hmk : m ≤ k := by rw [hm]; exact HNN.out
  by_cases hlt : j < m
  ·have hlt' : (j : Int) < (m : Int) := by omega
   have hjl : j < NL.length := by omega
   obtain ⟨gb, ob, rfl, rfl⟩ := hs.own_at 2 rfl (by omega)
   obtain ⟨ii, hii⟩ : ∃ i, i = NL[j] := ⟨_, rfl⟩
   have HC := Lib.hid (show (ivs NL)[j]? = some (iv ii) by unfold ivs; rw [List.getElem?_map, List.getElem?_eq_getElem hjl, hii]; rfl)
   have hik : ii < zj.l.length := by rw [hii, HZ.out.1.2]; exact HNL.out j hjl
   have CA2 := Lib.hid (fun w hs => CA.out zj ii (.own 1 (some gb) (some ⟨gb, ob, none⟩) m c0 (ivs NL) :: L) w HZ.out.1.1 hik hs)
   have HD : Hid (NL.drop j = ii :: NL.drop (j + 1)) := Lib.hid (by rw [hii]; exact List.drop_eq_getElem_cons hjl)
   have HOA := Lib.hid (HZ.out.1.1.act hik 5)
   have HR := Lib.hid (show runE 5 NL z = if (actE zj ii 5).2 = 0 then runE 5 (NL.drop (j + 1)) (actE zj ii 5).1 else (zj, (actE zj ii 5).2) by rw [HZ.out.2, HD.out, runE_cons])
   have HZ1 := Lib.hid HZ.out.1.2
   obtain ⟨q, hq⟩ : ∃ q, q = actE zj ii 5 := ⟨_, rfl⟩
   rw [← hq] at CA2 HR HOA
   have HM := Lib.hid hm
   clear hii hik hq HD CA hm HZ hjl
   by_cases hq0 : q.2 = 0
   ·have HR2 := Lib.hid (show runE 5 NL z = runE 5 (NL.drop (j + 1)) q.1 by rw [HR.out, if_pos hq0])
    have CA3 : Hid (∀ (w : World), St w0 X (pZ g zj (some ⟨ga, oa, none⟩) cc :: pL (some ga) (some ⟨ga, oa, none⟩) cc zj :: .own 1 (some gb) (some ⟨gb, ob, none⟩) m c0 (ivs NL) :: L) w → Calls Try.prog 77 #[.pointer (some ⟨g, 0, none⟩), .int .i64 (ii : Int)] w fun e' w' => e' = .returned (.tuple #[]) ∧ St w0 X (pZ g q.1 (some ⟨ga, oa, none⟩) cc :: pL (some ga) (some ⟨ga, oa, none⟩) cc q.1 :: .own 1 (some gb) (some ⟨gb, ob, none⟩) m c0 (ivs NL) :: L) w') := Lib.hid (fun w hs => (CA2.out w hs).mono (by
     rintro e w ⟨_, ⟨_, h1, h2⟩ | ⟨h1, _⟩⟩
     ·exact ⟨h1, h2⟩
     ·exact absurd hq0 h1))
    clear CA2 HR hq0
    go_wp2_with (first | ((with_reducible refine Se.isL (o := ⟨some 28, _, _, _, _, _⟩) ?_); (refine Se.toL rfl (Se.ld (o := ⟨some 28, _, _, _, _, _⟩) hs rfl rfl (((Reads.own 2 rfl).cell j HC.out)) (by kernel_rfl) ?_))) | (go_at_call 77; refine Calls.mono (CA3.out _ hs) ?_; clear hs; rintro e w ⟨rfl, hs⟩))
    rw [HM.out] at hs ⊢
    go_roundg (NL.length - (j + 1))
    case measure => rw [HM.out] at hlt; omega
    case rel => exact ⟨j + 1, q.1, rfl, by rw [HM.out] at hlt; omega, by go_num, Lib.hid ⟨⟨HOA.out.1, by rw [HOA.out.2.2.2, HZ1.out]⟩, HR2.out⟩, hs⟩
   ·have HF := Lib.hid (MAB.out zj q.2 hq0 (by rw [HR.out, if_neg hq0]))
    have CA3 : Hid (∀ (w : World), St w0 X (pZ g zj (some ⟨ga, oa, none⟩) cc :: pL (some ga) (some ⟨ga, oa, none⟩) cc zj :: .own 1 (some gb) (some ⟨gb, ob, none⟩) m c0 (ivs NL) :: L) w → Calls Try.prog 77 #[.pointer (some ⟨g, 0, none⟩), .int .i64 (ii : Int)] w fun e' w' => e' = .panicked (chS q.2) ∧ ER w0 X L g cc ⟨ga, oa, none⟩ (some ga) (manageAllE z 5) (.panicked (chS q.2)) w') := Lib.hid (fun w hs => (CA2.out w hs).mono (by
     rintro e w ⟨_, ⟨h1, _⟩ | ⟨_, h1, z', h2⟩⟩
     ·exact absurd h1 hq0
     ·exact ⟨h1, .inr (by rw [HF.out]; exact ⟨hq0, rfl, z', h2.sub (List.Sublist.cons_cons _ (List.Sublist.cons_cons _ (.cons _ (List.Sublist.refl _))))⟩)⟩))
    clear CA2 HR hq0
    go_wp2_with (first | ((with_reducible refine Se.isL (o := ⟨some 28, _, _, _, _, _⟩) ?_); (refine Se.toL rfl (Se.ld (o := ⟨some 28, _, _, _, _, _⟩) hs rfl rfl (((Reads.own 2 rfl).cell j HC.out)) (by kernel_rfl) ?_))) | (go_at_call 77; refine Calls.mono (CA3.out _ hs) ?_; clear hs; rintro e w ⟨rfl, hE⟩))
    exact ⟨rfl, trivial, hE⟩
  ·obtain rfl : j = m := by omega
   have HF := Lib.hid (MAE.out zj (by rw [HZ.out.2, hm, List.drop_length, runE]))
   clear hm HZ CA
   go_wp2_with fail
   go_end0
   have hE : ER w0 X L g cc ⟨ga, oa, none⟩ (some ga) (manageAllE z 5) (.returned (.tuple #[])) w := .inl (by rw [HF.out]; exact ⟨rfl, rfl, hs.sub (List.Sublist.cons_cons _ (List.Sublist.cons_cons _ (.cons _ (List.Sublist.refl _))))⟩)
   first | exact hE | exact ⟨trivial, hE⟩
theorem manageAll1_st {g cc gA : Nat} {z : Zs} {a : Addr} {r : Option Nat} (hs : St w0 X (pZ g z (some a) cc :: pL r (some a) cc z :: L) w) (ho : OkZ z) {a0 : Int} (hA : Cell L gA 0 (.int .i64 a0)) :
  Calls Try.prog 60 #[.pointer (some ⟨g, 0, none⟩), .pointer (some ⟨gA, 0, none⟩)] w fun e' w' => True ∧ ER w0 X L g cc a r (manageAllE z a0) e' w' := by
 by_cases h5 : a0 < 1 ∨ 5 < a0
 ·exact all0 hs ho h5 hA
 ·have h : a0 = 1 ∨ a0 = 2 ∨ a0 = 3 ∨ a0 = 4 ∨ a0 = 5 := by omega
  rcases h with rfl | rfl | rfl | rfl | rfl
  ·exact all1 hs ho hA
  ·exact all2 hs ho hA
  ·exact all3 hs ho hA
  ·exact all4 hs ho hA
  ·exact all5 hs ho hA
end Zo
end Go.Proofs.Ythpgkkfahiglnaa


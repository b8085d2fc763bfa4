/- Layer 28: numbers of zones; the states an action concerns. No condition but Go's own limits. Printed by wip/gen_zonenum.py. -/
import Derived.Test.YthpgkkfahiglnaaZoneActs
set_option maxRecDepth 100000
set_option maxHeartbeats 4000000
set_option linter.unusedSimpArgs false
set_option linter.unusedVariables false
namespace Go.Proofs.Ythpgkkfahiglnaa
open Go Go.RowKit
namespace Zo
open Se (St At Reads Cell)
open Li (Rd Blk Fr)
variable {w0 w : World} {X : List Nat} {L : List At}
attribute [local irreducible] Calls
attribute [local go_sem] eql_nil
theorem int_i3 : (Try.prog.info? 3).map (fun i => (i.zero, i.size, i.bytes)) = some (some (.int .i64 0), 1, 8) := by kernel_rfl
def numsT (p : Zn → Bool) (l : List Zn) (j : Nat) : List Nat := (List.range j).filter fun i => p (l.getD i dz)
def ivs (xs : List Nat) : List Value := xs.map iv
theorem numsT_t {p : Zn → Bool} {l : List Zn} {j : Nat} (h : p (l.getD j dz) = true) : numsT p l (j + 1) = numsT p l j ++ [j] := by unfold numsT; rw [List.range_succ, List.filter_append]; simp only [List.filter_cons, List.filter_nil, h, if_true]
theorem numsT_f {p : Zn → Bool} {l : List Zn} {j : Nat} (h : p (l.getD j dz) = false) : numsT p l (j + 1) = numsT p l j := by unfold numsT; rw [List.range_succ, List.filter_append]; simp only [List.filter_cons, List.filter_nil, h, Bool.false_eq_true, if_false, List.append_nil]
theorem numsT_le (p : Zn → Bool) (l : List Zn) (j : Nat) : (numsT p l j).length ≤ j := by unfold numsT; have := List.length_filter_le (fun i => p (l.getD i dz)) (List.range j); rwa [List.length_range] at this
theorem numbers_o {p : Zn → Bool} {bnd : Array Value} {l : List Zn} {A : Option Addr} {n c : Nat} (hs : St w0 X L w) (hn : n = l.length) (hr : Reads L A (ocs l)) (hle : n ≤ 4096) (h1 : 1 ≤ n)
  (hF : ∀ (x : Zn) (M : List At) (w : World), St w0 X (M ++ L) w → Calls Try.prog 63 (#[.agg (oc x).toArray] ++ bnd) w fun e w' => e = .returned (.bool (p x)) ∧ St w0 X (M ++ L) w') :
  Calls Try.prog 55 #[.slice A n c, .func (.func 63) #[] bnd] w fun e w' => ∃ r B c', e = .returned (.slice B (numsT p l n).length c') ∧ St w0 X (.own 1 r B (numsT p l n).length c' (ivs (numsT p l n)) :: L) w' := by
 have hne : ocs l ≠ [] := by
  intro h0
  have := ocs_len l
  rw [h0] at this
  simp at this
  omega
 obtain ⟨ga, oa, rfl, _, _⟩ := (hr w hs.hold).cells hne
 have HN := Lib.hid hn
 have HR := Lib.hid hr
 have HF := Lib.hid hF
 clear hne hn hr hF h1
 go_enter Try.func55, Try.ntmps55
 go_wp2_with fail
 go_loopg [4, 9] n (fun gh s4 s9 wr => ∃ (j : Nat) (r : Option Nat) (B : Option Addr) (m c' : Nat), gh = n - j ∧ j ≤ n ∧ s9 = .int .i64 (j : Int) ∧ s4 = .slice B m c' ∧ Hid (m = (numsT p l j).length) ∧ St w0 X (.own 1 r B m c' (ivs (numsT p l j)) :: L) wr)
 case atStart => exact ⟨0, none, none, 0, 0, rfl, Nat.zero_le _, rfl, rfl, Lib.hid rfl, hs.nil_own 1 none⟩
 case round =>
  clear hs
  rename World => w
  obtain ⟨j, r, B, m, c', rfl, hj, rfl, rfl, HM, hs⟩ := hrel
  have hmj : m ≤ j := by rw [HM.out]; exact numsT_le _ _ _
  by_cases hlt : j < n
  ·have hlt' : (j : Int) < (n : Int) := by omega
   have hjl : j < l.length := by have := HN.out; omega
   have HX := Lib.hid (row_at HR.out hjl)
   obtain ⟨x, hx⟩ : ∃ x, x = l[j] := ⟨_, rfl⟩
   have HG := Lib.hid (show l.getD j dz = x by rw [hx]; exact getD_get hjl)
   rw [← hx] at HX
   obtain ⟨O, hO⟩ : ∃ O, O = oc x := ⟨_, rfl⟩
   have OL := Lib.hid (show O.length = 3 by rw [hO]; rfl)
   have OO := Lib.hid (show ∀ v ∈ O, v.oneCell' = true by rw [hO]; exact oc_one x)
   obtain ⟨b, hb⟩ : ∃ b, b = p x := ⟨_, rfl⟩
   have CF : Hid (∀ (M : List At) (w : World), St w0 X (M ++ L) w → Calls Try.prog 63 (#[.agg O.toArray] ++ bnd) w fun e w' => e = .returned (.bool b) ∧ St w0 X (M ++ L) w') := Lib.hid (fun M w hs => by rw [hb, hO]; exact HF.out x M w hs)
   have HB := Lib.hid (show p (l.getD j dz) = b by rw [HG.out, hb])
   obtain ⟨NS, hNS⟩ : ∃ N, N = ivs (numsT p l j) := ⟨_, rfl⟩
   rw [← hO] at HX
   rw [← hNS] at hs
   have HNS := Lib.hid hNS
   clear hx hO hb hNS hjl
   cases b with
   | true =>
    have HE := Lib.hid (numsT_t HB.out)
    go_wp2_with (first | ((with_reducible refine Se.isL (o := ⟨some 13, _, _, _, _, _⟩) ?_); (refine Se.toL rfl (Se.ldw (o := ⟨some 13, _, _, _, _, _⟩) hs rfl rfl ((HX.out.app [_])) ((by rw [OL.out]; kernel_rfl)) (by kernel_rfl) ?_))) | ((with_reducible refine Se.isL (o := ⟨some 6, _, _, _, _, _⟩) ?_); (refine Se.toL rfl (Se.al (o := ⟨some 6, _, _, _, _, _⟩) hs rfl (zOne) ?_); clear hs; rintro w g6 - hs)) | ((with_reducible refine Se.isL (o := ⟨none, _, _, _, _, _⟩) ?_); (refine Se.toL rfl (Se.sow 0 hs rfl rfl rfl rfl (OO.out) ((by rw [OL.out]; kernel_rfl)) ((by rw [OL.out]; rfl)) ?_); clear hs; intro w hs; try simp only [List.cons_append, List.nil_append, List.set_cons_zero] at hs)) | ((with_reducible refine Se.isL (o := ⟨some 15, _, _, _, _, _⟩) ?_); (refine Se.toL rfl (Se.ldw (o := ⟨some 15, _, _, _, _, _⟩) hs rfl rfl ((Reads.blk 0 rfl)) ((by rw [OL.out]; kernel_rfl)) (by kernel_rfl) ?_))) | ((with_reducible refine Se.isL (o := ⟨some 19, _, _, _, _, _⟩) ?_); (refine Se.toL rfl (Se.bsv (o := ⟨some 19, _, _, _, _, _⟩) hs rfl Try.underlying106 inti rfl ([.int .i64 (j : Int)]) (by rfl) (by rfl) (by decide) (by decide) (by simp [Value.oneCell']) ?_); clear hs; rintro w g19 - hs)) | ((with_reducible refine Se.isL (o := ⟨some 20, _, _, _, _, _⟩) ?_); (refine Se.toL rfl (Se.ap (o := ⟨some 20, _, _, _, _, _⟩) 2 hs rfl rfl rfl rfl ((Reads.blk 0 rfl)) Try.underlying106 int_i3 (rfl) (by decide) ((by simp [Value.oneCell'])) (rfl) ((by omega)) ((by omega)) ?_); clear hs; rintro w r' B' c2 hs; try simp only [List.cons_append, List.nil_append, List.set_cons_zero, List.set_cons_succ] at hs; try simp only [Nat.zero_add, List.nil_append] at hs; try simp only [Nat.zero_add])) | (go_at_call 63; refine Calls.mono (CF.out [_, _] _ hs) ?_; clear hs; rintro e w ⟨rfl, hs⟩))
    go_roundg (n - (j + 1))
    case measure => omega
    case rel =>
     refine ⟨j + 1, r', B', m + 1, c2, rfl, by omega, by go_num, by go_num, Lib.hid (by rw [HE.out, List.length_append, HM.out]; rfl), ?_⟩
     have h2 := hs.drop.drop
     rw [HNS.out] at h2
     rw [HE.out]
     unfold ivs at h2 ⊢
     rw [List.map_append]
     exact h2
   | false =>
    have HE := Lib.hid (numsT_f HB.out)
    go_wp2_with (first | ((with_reducible refine Se.isL (o := ⟨some 13, _, _, _, _, _⟩) ?_); (refine Se.toL rfl (Se.ldw (o := ⟨some 13, _, _, _, _, _⟩) hs rfl rfl ((HX.out.app [_])) ((by rw [OL.out]; kernel_rfl)) (by kernel_rfl) ?_))) | ((with_reducible refine Se.isL (o := ⟨some 6, _, _, _, _, _⟩) ?_); (refine Se.toL rfl (Se.al (o := ⟨some 6, _, _, _, _, _⟩) hs rfl (zOne) ?_); clear hs; rintro w g6 - hs)) | ((with_reducible refine Se.isL (o := ⟨none, _, _, _, _, _⟩) ?_); (refine Se.toL rfl (Se.sow 0 hs rfl rfl rfl rfl (OO.out) ((by rw [OL.out]; kernel_rfl)) ((by rw [OL.out]; rfl)) ?_); clear hs; intro w hs; try simp only [List.cons_append, List.nil_append, List.set_cons_zero] at hs)) | ((with_reducible refine Se.isL (o := ⟨some 15, _, _, _, _, _⟩) ?_); (refine Se.toL rfl (Se.ldw (o := ⟨some 15, _, _, _, _, _⟩) hs rfl rfl ((Reads.blk 0 rfl)) ((by rw [OL.out]; kernel_rfl)) (by kernel_rfl) ?_))) | (go_at_call 63; refine Calls.mono (CF.out [_, _] _ hs) ?_; clear hs; rintro e w ⟨rfl, hs⟩))
    go_roundg (n - (j + 1))
    case measure => omega
    case rel =>
     refine ⟨j + 1, r, B, m, c', rfl, by omega, by go_num, rfl, Lib.hid (by rw [HE.out]; exact HM.out), ?_⟩
     rw [HE.out, ← HNS.out]
     exact hs.drop
  ·obtain rfl : j = n := by omega
   have HM2 := HM.out
   clear HM
   subst HM2
   go_wp2_with fail
   go_ret
   exact ⟨r, B, c', rfl, hs⟩
theorem numbers_m {p : Zn → Bool} {bnd : Array Value} {l : List Zn} {A : Option Addr} {n c : Nat} (hs : St w0 X L w) (hn : n = l.length) (hr : Reads L A (ocs l)) (hle : n ≤ 4096) (h1 : 1 ≤ n)
  (hF : ∀ (x : Zn) (M : List At) (w : World), St w0 X (M ++ L) w → Calls Try.prog 62 (#[.agg (oc x).toArray] ++ bnd) w fun e w' => e = .returned (.bool (p x)) ∧ St w0 X (M ++ L) w') :
  Calls Try.prog 55 #[.slice A n c, .func (.func 62) #[] bnd] w fun e w' => ∃ r B c', e = .returned (.slice B (numsT p l n).length c') ∧ St w0 X (.own 1 r B (numsT p l n).length c' (ivs (numsT p l n)) :: L) w' := by
 have hne : ocs l ≠ [] := by
  intro h0
  have := ocs_len l
  rw [h0] at this
  simp at this
  omega
 obtain ⟨ga, oa, rfl, _, _⟩ := (hr w hs.hold).cells hne
 have HN := Lib.hid hn
 have HR := Lib.hid hr
 have HF := Lib.hid hF
 clear hne hn hr hF h1
 go_enter Try.func55, Try.ntmps55
 go_wp2_with fail
 go_loopg [4, 9] n (fun gh s4 s9 wr => ∃ (j : Nat) (r : Option Nat) (B : Option Addr) (m c' : Nat), gh = n - j ∧ j ≤ n ∧ s9 = .int .i64 (j : Int) ∧ s4 = .slice B m c' ∧ Hid (m = (numsT p l j).length) ∧ St w0 X (.own 1 r B m c' (ivs (numsT p l j)) :: L) wr)
 case atStart => exact ⟨0, none, none, 0, 0, rfl, Nat.zero_le _, rfl, rfl, Lib.hid rfl, hs.nil_own 1 none⟩
 case round =>
  clear hs
  rename World => w
  obtain ⟨j, r, B, m, c', rfl, hj, rfl, rfl, HM, hs⟩ := hrel
  have hmj : m ≤ j := by rw [HM.out]; exact numsT_le _ _ _
  by_cases hlt : j < n
  ·have hlt' : (j : Int) < (n : Int) := by omega
   have hjl : j < l.length := by have := HN.out; omega
   have HX := Lib.hid (row_at HR.out hjl)
   obtain ⟨x, hx⟩ : ∃ x, x = l[j] := ⟨_, rfl⟩
   have HG := Lib.hid (show l.getD j dz = x by rw [hx]; exact getD_get hjl)
   rw [← hx] at HX
   obtain ⟨O, hO⟩ : ∃ O, O = oc x := ⟨_, rfl⟩
   have OL := Lib.hid (show O.length = 3 by rw [hO]; rfl)
   have OO := Lib.hid (show ∀ v ∈ O, v.oneCell' = true by rw [hO]; exact oc_one x)
   obtain ⟨b, hb⟩ : ∃ b, b = p x := ⟨_, rfl⟩
   have CF : Hid (∀ (M : List At) (w : World), St w0 X (M ++ L) w → Calls Try.prog 62 (#[.agg O.toArray] ++ bnd) w fun e w' => e = .returned (.bool b) ∧ St w0 X (M ++ L) w') := Lib.hid (fun M w hs => by rw [hb, hO]; exact HF.out x M w hs)
   have HB := Lib.hid (show p (l.getD j dz) = b by rw [HG.out, hb])
   obtain ⟨NS, hNS⟩ : ∃ N, N = ivs (numsT p l j) := ⟨_, rfl⟩
   rw [← hO] at HX
   rw [← hNS] at hs
   have HNS := Lib.hid hNS
   clear hx hO hb hNS hjl
   cases b with
   | true =>
    have HE := Lib.hid (numsT_t HB.out)
    go_wp2_with (first | ((with_reducible refine Se.isL (o := ⟨some 13, _, _, _, _, _⟩) ?_); (refine Se.toL rfl (Se.ldw (o := ⟨some 13, _, _, _, _, _⟩) hs rfl rfl ((HX.out.app [_])) ((by rw [OL.out]; kernel_rfl)) (by kernel_rfl) ?_))) | ((with_reducible refine Se.isL (o := ⟨some 6, _, _, _, _, _⟩) ?_); (refine Se.toL rfl (Se.al (o := ⟨some 6, _, _, _, _, _⟩) hs rfl (zOne) ?_); clear hs; rintro w g6 - hs)) | ((with_reducible refine Se.isL (o := ⟨none, _, _, _, _, _⟩) ?_); (refine Se.toL rfl (Se.sow 0 hs rfl rfl rfl rfl (OO.out) ((by rw [OL.out]; kernel_rfl)) ((by rw [OL.out]; rfl)) ?_); clear hs; intro w hs; try simp only [List.cons_append, List.nil_append, List.set_cons_zero] at hs)) | ((with_reducible refine Se.isL (o := ⟨some 15, _, _, _, _, _⟩) ?_); (refine Se.toL rfl (Se.ldw (o := ⟨some 15, _, _, _, _, _⟩) hs rfl rfl ((Reads.blk 0 rfl)) ((by rw [OL.out]; kernel_rfl)) (by kernel_rfl) ?_))) | ((with_reducible refine Se.isL (o := ⟨some 19, _, _, _, _, _⟩) ?_); (refine Se.toL rfl (Se.bsv (o := ⟨some 19, _, _, _, _, _⟩) hs rfl Try.underlying106 inti rfl ([.int .i64 (j : Int)]) (by rfl) (by rfl) (by decide) (by decide) (by simp [Value.oneCell']) ?_); clear hs; rintro w g19 - hs)) | ((with_reducible refine Se.isL (o := ⟨some 20, _, _, _, _, _⟩) ?_); (refine Se.toL rfl (Se.ap (o := ⟨some 20, _, _, _, _, _⟩) 2 hs rfl rfl rfl rfl ((Reads.blk 0 rfl)) Try.underlying106 int_i3 (rfl) (by decide) ((by simp [Value.oneCell'])) (rfl) ((by omega)) ((by omega)) ?_); clear hs; rintro w r' B' c2 hs; try simp only [List.cons_append, List.nil_append, List.set_cons_zero, List.set_cons_succ] at hs; try simp only [Nat.zero_add, List.nil_append] at hs; try simp only [Nat.zero_add])) | (go_at_call 62; refine Calls.mono (CF.out [_, _] _ hs) ?_; clear hs; rintro e w ⟨rfl, hs⟩))
    go_roundg (n - (j + 1))
    case measure => omega
    case rel =>
     refine ⟨j + 1, r', B', m + 1, c2, rfl, by omega, by go_num, by go_num, Lib.hid (by rw [HE.out, List.length_append, HM.out]; rfl), ?_⟩
     have h2 := hs.drop.drop
     rw [HNS.out] at h2
     rw [HE.out]
     unfold ivs at h2 ⊢
     rw [List.map_append]
     exact h2
   | false =>
    have HE := Lib.hid (numsT_f HB.out)
    go_wp2_with (first | ((with_reducible refine Se.isL (o := ⟨some 13, _, _, _, _, _⟩) ?_); (refine Se.toL rfl (Se.ldw (o := ⟨some 13, _, _, _, _, _⟩) hs rfl rfl ((HX.out.app [_])) ((by rw [OL.out]; kernel_rfl)) (by kernel_rfl) ?_))) | ((with_reducible refine Se.isL (o := ⟨some 6, _, _, _, _, _⟩) ?_); (refine Se.toL rfl (Se.al (o := ⟨some 6, _, _, _, _, _⟩) hs rfl (zOne) ?_); clear hs; rintro w g6 - hs)) | ((with_reducible refine Se.isL (o := ⟨none, _, _, _, _, _⟩) ?_); (refine Se.toL rfl (Se.sow 0 hs rfl rfl rfl rfl (OO.out) ((by rw [OL.out]; kernel_rfl)) ((by rw [OL.out]; rfl)) ?_); clear hs; intro w hs; try simp only [List.cons_append, List.nil_append, List.set_cons_zero] at hs)) | ((with_reducible refine Se.isL (o := ⟨some 15, _, _, _, _, _⟩) ?_); (refine Se.toL rfl (Se.ldw (o := ⟨some 15, _, _, _, _, _⟩) hs rfl rfl ((Reads.blk 0 rfl)) ((by rw [OL.out]; kernel_rfl)) (by kernel_rfl) ?_))) | (go_at_call 62; refine Calls.mono (CF.out [_, _] _ hs) ?_; clear hs; rintro e w ⟨rfl, hs⟩))
    go_roundg (n - (j + 1))
    case measure => omega
    case rel =>
     refine ⟨j + 1, r, B, m, c', rfl, by omega, by go_num, rfl, Lib.hid (by rw [HE.out]; exact HM.out), ?_⟩
     rw [HE.out, ← HNS.out]
     exact hs.drop
  ·obtain rfl : j = n := by omega
   have HM2 := HM.out
   clear HM
   subst HM2
   go_wp2_with fail
   go_ret
   exact ⟨r, B, c', rfl, hs⟩
theorem numbers_e {p : Zn → Bool} {bnd : Array Value} {l : List Zn} {A : Option Addr} {n c : Nat} (hs : St w0 X L w) (hn : n = l.length) (hr : Reads L A (ocs l)) (hle : n ≤ 4096) (h1 : 1 ≤ n)
  (hF : ∀ (x : Zn) (M : List At) (w : World), St w0 X (M ++ L) w → Calls Try.prog 56 (#[.agg (oc x).toArray] ++ bnd) w fun e w' => e = .returned (.bool (p x)) ∧ St w0 X (M ++ L) w') :
  Calls Try.prog 55 #[.slice A n c, .func (.func 56) #[] bnd] w fun e w' => ∃ r B c', e = .returned (.slice B (numsT p l n).length c') ∧ St w0 X (.own 1 r B (numsT p l n).length c' (ivs (numsT p l n)) :: L) w' := by
 have hne : ocs l ≠ [] := by
  intro h0
  have := ocs_len l
  rw [h0] at this
  simp at this
  omega
 obtain ⟨ga, oa, rfl, _, _⟩ := (hr w hs.hold).cells hne
 have HN := Lib.hid hn
 have HR := Lib.hid hr
 have HF := Lib.hid hF
 clear hne hn hr hF h1
 go_enter Try.func55, Try.ntmps55
 go_wp2_with fail
 go_loopg [4, 9] n (fun gh s4 s9 wr => ∃ (j : Nat) (r : Option Nat) (B : Option Addr) (m c' : Nat), gh = n - j ∧ j ≤ n ∧ s9 = .int .i64 (j : Int) ∧ s4 = .slice B m c' ∧ Hid (m = (numsT p l j).length) ∧ St w0 X (.own 1 r B m c' (ivs (numsT p l j)) :: L) wr)
 case atStart => exact ⟨0, none, none, 0, 0, rfl, Nat.zero_le _, rfl, rfl, Lib.hid rfl, hs.nil_own 1 none⟩
 case round =>
  clear hs
  rename World => w
  obtain ⟨j, r, B, m, c', rfl, hj, rfl, rfl, HM, hs⟩ := hrel
  have hmj : m ≤ j := by rw [HM.out]; exact numsT_le _ _ _
  by_cases hlt : j < n
  ·have hlt' : (j : Int) < (n : Int) := by omega
   have hjl : j < l.length := by have := HN.out; omega
   have HX := Lib.hid (row_at HR.out hjl)
   obtain ⟨x, hx⟩ : ∃ x, x = l[j] := ⟨_, rfl⟩
   have HG := Lib.hid (show l.getD j dz = x by rw [hx]; exact getD_get hjl)
   rw [← hx] at HX
   obtain ⟨O, hO⟩ : ∃ O, O = oc x := ⟨_, rfl⟩
   have OL := Lib.hid (show O.length = 3 by rw [hO]; rfl)
   have OO := Lib.hid (show ∀ v ∈ O, v.oneCell' = true by rw [hO]; exact oc_one x)
   obtain ⟨b, hb⟩ : ∃ b, b = p x := ⟨_, rfl⟩
   have CF : Hid (∀ (M : List At) (w : World), St w0 X (M ++ L) w → Calls Try.prog 56 (#[.agg O.toArray] ++ bnd) w fun e w' => e = .returned (.bool b) ∧ St w0 X (M ++ L) w') := Lib.hid (fun M w hs => by rw [hb, hO]; exact HF.out x M w hs)
   have HB := Lib.hid (show p (l.getD j dz) = b by rw [HG.out, hb])
   obtain ⟨NS, hNS⟩ : ∃ N, N = ivs (numsT p l j) := ⟨_, rfl⟩
   rw [← hO] at HX
   rw [← hNS] at hs
   have HNS := Lib.hid hNS
   clear hx hO hb hNS hjl
   cases b with
   | true =>
    have HE := Lib.hid (numsT_t HB.out)
    go_wp2_with (first | ((with_reducible refine Se.isL (o := ⟨some 13, _, _, _, _, _⟩) ?_); (refine Se.toL rfl (Se.ldw (o := ⟨some 13, _, _, _, _, _⟩) hs rfl rfl ((HX.out.app [_])) ((by rw [OL.out]; kernel_rfl)) (by kernel_rfl) ?_))) | ((with_reducible refine Se.isL (o := ⟨some 6, _, _, _, _, _⟩) ?_); (refine Se.toL rfl (Se.al (o := ⟨some 6, _, _, _, _, _⟩) hs rfl (zOne) ?_); clear hs; rintro w g6 - hs)) | ((with_reducible refine Se.isL (o := ⟨none, _, _, _, _, _⟩) ?_); (refine Se.toL rfl (Se.sow 0 hs rfl rfl rfl rfl (OO.out) ((by rw [OL.out]; kernel_rfl)) ((by rw [OL.out]; rfl)) ?_); clear hs; intro w hs; try simp only [List.cons_append, List.nil_append, List.set_cons_zero] at hs)) | ((with_reducible refine Se.isL (o := ⟨some 15, _, _, _, _, _⟩) ?_); (refine Se.toL rfl (Se.ldw (o := ⟨some 15, _, _, _, _, _⟩) hs rfl rfl ((Reads.blk 0 rfl)) ((by rw [OL.out]; kernel_rfl)) (by kernel_rfl) ?_))) | ((with_reducible refine Se.isL (o := ⟨some 19, _, _, _, _, _⟩) ?_); (refine Se.toL rfl (Se.bsv (o := ⟨some 19, _, _, _, _, _⟩) hs rfl Try.underlying106 inti rfl ([.int .i64 (j : Int)]) (by rfl) (by rfl) (by decide) (by decide) (by simp [Value.oneCell']) ?_); clear hs; rintro w g19 - hs)) | ((with_reducible refine Se.isL (o := ⟨some 20, _, _, _, _, _⟩) ?_); (refine Se.toL rfl (Se.ap (o := ⟨some 20, _, _, _, _, _⟩) 2 hs rfl rfl rfl rfl ((Reads.blk 0 rfl)) Try.underlying106 int_i3 (rfl) (by decide) ((by simp [Value.oneCell'])) (rfl) ((by omega)) ((by omega)) ?_); clear hs; rintro w r' B' c2 hs; try simp only [List.cons_append, List.nil_append, List.set_cons_zero, List.set_cons_succ] at hs; try simp only [Nat.zero_add, List.nil_append] at hs; try simp only [Nat.zero_add])) | (go_at_call 56; refine Calls.mono (CF.out [_, _] _ hs) ?_; clear hs; rintro e w ⟨rfl, hs⟩))
    go_roundg (n - (j + 1))
    case measure => omega
    case rel =>
     refine ⟨j + 1, r', B', m + 1, c2, rfl, by omega, by go_num, by go_num, Lib.hid (by rw [HE.out, List.length_append, HM.out]; rfl), ?_⟩
     have h2 := hs.drop.drop
     rw [HNS.out] at h2
     rw [HE.out]
     unfold ivs at h2 ⊢
     rw [List.map_append]
     exact h2
   | false =>
    have HE := Lib.hid (numsT_f HB.out)
    go_wp2_with (first | ((with_reducible refine Se.isL (o := ⟨some 13, _, _, _, _, _⟩) ?_); (refine Se.toL rfl (Se.ldw (o := ⟨some 13, _, _, _, _, _⟩) hs rfl rfl ((HX.out.app [_])) ((by rw [OL.out]; kernel_rfl)) (by kernel_rfl) ?_))) | ((with_reducible refine Se.isL (o := ⟨some 6, _, _, _, _, _⟩) ?_); (refine Se.toL rfl (Se.al (o := ⟨some 6, _, _, _, _, _⟩) hs rfl (zOne) ?_); clear hs; rintro w g6 - hs)) | ((with_reducible refine Se.isL (o := ⟨none, _, _, _, _, _⟩) ?_); (refine Se.toL rfl (Se.sow 0 hs rfl rfl rfl rfl (OO.out) ((by rw [OL.out]; kernel_rfl)) ((by rw [OL.out]; rfl)) ?_); clear hs; intro w hs; try simp only [List.cons_append, List.nil_append, List.set_cons_zero] at hs)) | ((with_reducible refine Se.isL (o := ⟨some 15, _, _, _, _, _⟩) ?_); (refine Se.toL rfl (Se.ldw (o := ⟨some 15, _, _, _, _, _⟩) hs rfl rfl ((Reads.blk 0 rfl)) ((by rw [OL.out]; kernel_rfl)) (by kernel_rfl) ?_))) | (go_at_call 56; refine Calls.mono (CF.out [_, _] _ hs) ?_; clear hs; rintro e w ⟨rfl, hs⟩))
    go_roundg (n - (j + 1))
    case measure => omega
    case rel =>
     refine ⟨j + 1, r, B, m, c', rfl, by omega, by go_num, rfl, Lib.hid (by rw [HE.out]; exact HM.out), ?_⟩
     rw [HE.out, ← HNS.out]
     exact hs.drop
  ·obtain rfl : j = n := by omega
   have HM2 := HM.out
   clear HM
   subst HM2
   go_wp2_with fail
   go_ret
   exact ⟨r, B, c', rfl, hs⟩
def conL (a : Int) : List Int := if a = 1 then [2, 3] else if a = 2 then [2, 3, 4] else if a = 3 then [4] else if a = 4 then [2, 3, 4, 14] else [13]
theorem concerned_st (hs : St w0 X L w) (a : Int) : Calls Try.prog 61 #[.int .i64 a] w fun e w' => ∃ B c P, e = .returned (.slice (some B) (conL a).length c) ∧ Reads (P ++ L) (some B) (ints (conL a)) ∧ St w0 X (P ++ L) w' := by
 by_cases q1 : a = 1
 ·subst q1
  go_enter Try.func61, Try.ntmps61
  go_wp2_with (first | ((with_reducible refine Se.isL (o := ⟨some 4, _, _, _, _, _⟩) ?_); (refine Se.toL rfl (Se.bsv (o := ⟨some 4, _, _, _, _, _⟩) hs rfl Try.underlying59 zsi rfl ([.int .i64 2, .int .i64 3, .int .i64 4, .int .i64 14]) (by rfl) (by rfl) (by decide) (by decide) (by simp [Value.oneCell']) ?_); clear hs; rintro w g4 - hs)))
  go_ret
  have h4 : Reads ([.blk g4 35 [.int .i64 2, .int .i64 3, .int .i64 4, .int .i64 14]] ++ L) (some ⟨g4, 0, none⟩) [.int .i64 2, .int .i64 3, .int .i64 4, .int .i64 14] := Reads.blk 0 rfl
  exact ⟨_, _, [_], rfl, h4.take 2, hs⟩
 have n1 : (a == 1) = false := by simpa using q1
 by_cases q2 : a = 2
 ·subst q2
  clear q1 n1
  go_enter Try.func61, Try.ntmps61
  go_wp2_with (first | ((with_reducible refine Se.isL (o := ⟨some 4, _, _, _, _, _⟩) ?_); (refine Se.toL rfl (Se.bsv (o := ⟨some 4, _, _, _, _, _⟩) hs rfl Try.underlying59 zsi rfl ([.int .i64 2, .int .i64 3, .int .i64 4, .int .i64 14]) (by rfl) (by rfl) (by decide) (by decide) (by simp [Value.oneCell']) ?_); clear hs; rintro w g4 - hs)))
  go_ret
  have h4 : Reads ([.blk g4 35 [.int .i64 2, .int .i64 3, .int .i64 4, .int .i64 14]] ++ L) (some ⟨g4, 0, none⟩) [.int .i64 2, .int .i64 3, .int .i64 4, .int .i64 14] := Reads.blk 0 rfl
  exact ⟨_, _, [_], rfl, h4.take 3, hs⟩
 have n2 : (a == 2) = false := by simpa using q2
 by_cases q3 : a = 3
 ·subst q3
  clear q1 n1 q2 n2
  go_enter Try.func61, Try.ntmps61
  go_wp2_with (first | ((with_reducible refine Se.isL (o := ⟨some 4, _, _, _, _, _⟩) ?_); (refine Se.toL rfl (Se.bsv (o := ⟨some 4, _, _, _, _, _⟩) hs rfl Try.underlying59 zsi rfl ([.int .i64 2, .int .i64 3, .int .i64 4, .int .i64 14]) (by rfl) (by rfl) (by decide) (by decide) (by simp [Value.oneCell']) ?_); clear hs; rintro w g4 - hs)))
  go_ret
  have h4 : Reads ([.blk g4 35 [.int .i64 2, .int .i64 3, .int .i64 4, .int .i64 14]] ++ L) (some ⟨g4, 0, none⟩) [.int .i64 2, .int .i64 3, .int .i64 4, .int .i64 14] := Reads.blk 0 rfl
  exact ⟨_, _, [_], rfl, (h4.at 2).take 1, hs⟩
 have n3 : (a == 3) = false := by simpa using q3
 by_cases q4 : a = 4
 ·subst q4
  clear q1 n1 q2 n2 q3 n3
  go_enter Try.func61, Try.ntmps61
  go_wp2_with (first | ((with_reducible refine Se.isL (o := ⟨some 4, _, _, _, _, _⟩) ?_); (refine Se.toL rfl (Se.bsv (o := ⟨some 4, _, _, _, _, _⟩) hs rfl Try.underlying59 zsi rfl ([.int .i64 2, .int .i64 3, .int .i64 4, .int .i64 14]) (by rfl) (by rfl) (by decide) (by decide) (by simp [Value.oneCell']) ?_); clear hs; rintro w g4 - hs)))
  go_ret
  have h4 : Reads ([.blk g4 35 [.int .i64 2, .int .i64 3, .int .i64 4, .int .i64 14]] ++ L) (some ⟨g4, 0, none⟩) [.int .i64 2, .int .i64 3, .int .i64 4, .int .i64 14] := Reads.blk 0 rfl
  exact ⟨_, _, [_], rfl, h4, hs⟩
 have n4 : (a == 4) = false := by simpa using q4
 have HC := Lib.hid (show conL a = [13] by unfold conL; rw [if_neg q1, if_neg q2, if_neg q3, if_neg q4])
 clear q1 q2 q3 q4
 go_enter Try.func61, Try.ntmps61
 go_wp2_with (first | ((with_reducible refine Se.isL (o := ⟨some 4, _, _, _, _, _⟩) ?_); (refine Se.toL rfl (Se.bsv (o := ⟨some 4, _, _, _, _, _⟩) hs rfl Try.underlying59 zsi rfl ([.int .i64 2, .int .i64 3, .int .i64 4, .int .i64 14]) (by rfl) (by rfl) (by decide) (by decide) (by simp [Value.oneCell']) ?_); clear hs; rintro w g4 - hs)) | ((with_reducible refine Se.isL (o := ⟨some 21, _, _, _, _, _⟩) ?_); (refine Se.toL rfl (Se.bsv (o := ⟨some 21, _, _, _, _, _⟩) hs rfl Try.underlying59 zsi rfl ([.int .i64 13]) (by rfl) (by rfl) (by decide) (by decide) (by simp [Value.oneCell']) ?_); clear hs; rintro w g21 - hs)))
 go_ret
 rw [HC.out]
 exact ⟨_, _, [_, _], rfl, Reads.blk 0 rfl, hs⟩
end Zo
end Go.Proofs.Ythpgkkfahiglnaa


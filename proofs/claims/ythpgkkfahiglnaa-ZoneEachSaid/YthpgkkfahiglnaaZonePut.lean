/- Layer 28: put. No condition but Go's own limits. Printed by wip/gen_zoneput.py. -/
import Derived.Test.YthpgkkfahiglnaaZoneWr
set_option maxRecDepth 100000
set_option maxHeartbeats 4000000
set_option linter.unusedSimpArgs false
set_option linter.unusedVariables false
namespace Go.Proofs.Ythpgkkfahiglnaa
open Go Go.RowKit
namespace Zo
open Se (St At Reads Cell)
open Li (Rd Blk Fr)
variable {w0 w : World} {X : List Nat} {L : List At}
attribute [local irreducible] Calls
attribute [local go_sem] eql_nil
def ER (w0 : World) (X : List Nat) (L : List At) (g cc : Nat) (a : Addr) (r : Option Nat) (q : Zs × Nat) (e' : Ending) (w' : World) : Prop :=
 (q.2 = 0 ∧ e' = .returned (.tuple #[]) ∧ St w0 X (pZ g q.1 (some a) cc :: pL r (some a) cc q.1 :: L) w') ∨ (q.2 ≠ 0 ∧ e' = .panicked (chS q.2) ∧ ∃ z', St w0 X (pZ g z' (some a) cc :: pL r (some a) cc z' :: L) w')
theorem OpR.er {g cc : Nat} {a : Addr} {r : Option Nat} {z : Zs} {i : Nat} {e' : Ending} {w' : World} (h : OpR w0 X L g cc a r z i e' w') : ER w0 X L g cc a r (opensE z i) e' w' := by
 rcases h with h | ⟨h1, h2, h3⟩
 ·exact .inl h
 ·exact .inr ⟨h1, h2, z, h3⟩
theorem ocs_set_p (l : List Zn) : ∀ (i : Nat) (_ : i < l.length) (s : Nat), (ocs l).set (i * 3 + 1) (iv s) = ocs (l.set i { l.getD i dz with p := s }) := by
 induction l with
 | nil => intro i h; simp at h
 | cons x l ih =>
  intro i h s
  cases i with
  | zero => rfl
  | succ i =>
   have e : (i + 1) * 3 + 1 = (oc x).length + (i * 3 + 1) := by show (i + 1) * 3 + 1 = 3 + (i * 3 + 1); omega
   show (oc x ++ ocs l).set ((i + 1) * 3 + 1) (iv s) = oc x ++ ocs (l.set i { l.getD i dz with p := s })
   rw [e, List.set_append_right _ _ (by omega), Nat.add_sub_cancel_left, ih i (by simpa using h)]
theorem ocs_set_r (l : List Zn) : ∀ (i : Nat) (_ : i < l.length) (s : Nat), (ocs l).set (i * 3 + 2) (iv s) = ocs (l.set i { l.getD i dz with r := s }) := by
 induction l with
 | nil => intro i h; simp at h
 | cons x l ih =>
  intro i h s
  cases i with
  | zero => rfl
  | succ i =>
   have e : (i + 1) * 3 + 2 = (oc x).length + (i * 3 + 2) := by show (i + 1) * 3 + 2 = 3 + (i * 3 + 2); omega
   show (oc x ++ ocs l).set ((i + 1) * 3 + 2) (iv s) = oc x ++ ocs (l.set i { l.getD i dz with r := s })
   rw [e, List.set_append_right _ _ (by omega), Nat.add_sub_cancel_left, ih i (by simpa using h)]
theorem getD_set {l : List Zn} {i : Nat} (h : i < l.length) (x : Zn) : (l.set i x).getD i dz = x := by simp [List.getD_eq_getElem?_getD, h]
theorem getD_get {l : List Zn} {i : Nat} (h : i < l.length) : l.getD i dz = l[i] := by rw [List.getD_eq_getElem?_getD, List.getElem?_eq_getElem h]; rfl
theorem opens_at {z : Zs} {i : Nat} (h : opn (z.l.getD i dz).st = false) : (opensE z i).1.l.getD i dz = z.l.getD i dz := by
 unfold opensE
 split
 ·rfl
 ·split
  ·rfl
  ·split
   ·rfl
   ·rename_i m hm
    have h2 := (leastN_lt _ _ _ hm).2
    have hne : m ≠ i := by rintro rfl; rw [h2] at h; cases h
    simp [List.getD_eq_getElem?_getD, hne]
def PutAt (z z1 : Zs) (i n : Nat) : Prop := z1.c = z.c ∧ z1.w = z.w ∧ z1.l.length = z.l.length ∧ (z1.l.getD i dz).p = (z.l.getD i dz).p ∧ putE z i n = (putF z1 i n (z1.l.getD i dz).st (z.l.getD i dz), 0)
theorem putAt_now {z : Zs} {i n : Nat} (h : ¬ z.c.cap < (z.l.getD i dz).p + n) (ho : opn (z.l.getD i dz).st = true) : PutAt z z i n := ⟨rfl, rfl, rfl, rfl, by unfold putE; rw [if_neg h, if_pos ho]⟩
theorem putAt_opened {z : Zs} (hz : OkZ z) {i n : Nat} (hi : i < z.l.length) (h : ¬ z.c.cap < (z.l.getD i dz).p + n) (ho : opn (z.l.getD i dz).st = false) (hq : (opensE z i).2 = 0) : PutAt z (putS (opensE z i).1 i { (opensE z i).1.l.getD i dz with st := 2 }) i n := by
 obtain ⟨h1, h2, h3, h4⟩ := hz.opens i
 have hi' : i < (opensE z i).1.l.length := by omega
 refine ⟨h2, h3, by simp [putS, h4], ?_, ?_⟩
 ·unfold putS
  dsimp only
  rw [getD_set hi', opens_at ho]
 ·unfold putE
  rw [if_neg h, if_neg (by rw [ho]; decide), if_pos hq]
  unfold putF putS
  dsimp only
  rw [getD_set hi', List.set_set]
theorem pZ_putS {g cc i : Nat} {q : Zs} {A : Option Addr} {x : Zn} : pZ g (putS q i x) A cc = pZ g q A cc := by unfold pZ zcl putS; dsimp only; rw [List.length_set]
theorem pL_putS {r : Option Nat} {cc i : Nat} {q : Zs} {A : Option Addr} (h : i < q.l.length) {s : Nat} : pL r A cc (putS q i { q.l.getD i dz with st := s }) = .own 3 r A q.l.length cc ((ocs q.l).set (i * 3) (iv s)) := by
 unfold pL putS
 dsimp only
 rw [List.length_set, ocs_set q.l i h s]
theorem put_st {g cc : Nat} {z : Zs} {a : Addr} {r : Option Nat} (hs : St w0 X (pZ g z (some a) cc :: pL r (some a) cc z :: L) w) (ho : OkZ z) (hw : z.w < 1099511627776) {i n : Nat} (hi : i < z.l.length) :
  Calls Try.prog 39 #[.pointer (some ⟨g, 0, none⟩), .int .i64 (i : Int), .int .i64 (n : Int)] w fun e' w' => True ∧ ER w0 X L g cc a r (putE z i n) e' w' := by
 obtain ⟨ga, oa, ha, hr⟩ := hs.own_at 1 rfl (by omega)
 obtain rfl : a = ⟨ga, oa, none⟩ := by simpa using ha
 subst hr
 clear ha
 obtain ⟨RL, hRL⟩ : ∃ RL, RL = zcl z (some ⟨ga, oa, none⟩) cc := ⟨_, rfl⟩
 obtain ⟨k, hk⟩ : ∃ n, n = z.l.length := ⟨_, rfl⟩
 have hk1 : k ≤ 4096 := by rw [hk, ho.1]; exact ho.2.2.1
 obtain ⟨cap, hcap⟩ : ∃ n, n = z.c.cap := ⟨_, rfl⟩
 have hcap1 : cap ≤ 65536 := by rw [hcap]; have := ho.2.2.2.2.2.2.1; have := ho.2.2.2.2.1; omega
 obtain ⟨l, hl⟩ : ∃ l, l = z.l := ⟨_, rfl⟩
 obtain ⟨x, hx⟩ : ∃ x, x = l.getD i dz := ⟨_, rfl⟩
 obtain ⟨p, hp⟩ : ∃ p, p = x.p := ⟨_, rfl⟩
 have R5 := Lib.hid (show RL[5]? = some (.slice (some ⟨ga, oa, none⟩) k cc) by rw [hRL, hk]; rfl)
 have R2 := Lib.hid (show RL[2]? = some (iv cap) by rw [hRL, hcap]; rfl)
 have hpc : p ≤ cap := by rw [hp, hcap, hx, hl]; exact (ho.2.2.2.2.2.2.2.2.2 _ (getD_mem hi)).2.2.1
 have e1 : pZ g z (some ⟨ga, oa, none⟩) cc = .blk g 71 RL := by rw [hRL]
 have e2 : pL (some ga) (some ⟨ga, oa, none⟩) cc z = .own 3 (some ga) (some ⟨ga, oa, none⟩) k cc (ocs l) := by unfold pL; rw [← hk, ← hl]
 have hil : i < l.length := by rw [hl]; exact hi
 have hxg : x = l[i] := by rw [hx]; exact getD_get hil
 have CP : Hid (∀ (w : World), St w0 X (.blk g 71 RL :: .own 3 (some ga) (some ⟨ga, oa, none⟩) k cc (ocs l) :: L) w → w.cell? ⟨ga, oa + i * 3 + 1, none⟩ = some (iv p)) := Lib.hid (fun w hs => by
  have h := ocs_at l i hil 1 (by decide)
  have h2 := ((Reads.own 1 rfl : Reads (.blk g 71 RL :: .own 3 (some ga) (some ⟨ga, oa, none⟩) k cc (ocs l) :: L) _ _).cell (i * 3 + 1) (v := iv p) (by rw [h, hp, ← hxg]; rfl)) w hs.hold
  rwa [← Nat.add_assoc] at h2)
 have HR : Hid (Reads (.blk g 71 RL :: .own 3 (some ga) (some ⟨ga, oa, none⟩) k cc (ocs l) :: L) (some ⟨ga, oa + i * 3, none⟩) (oc x)) := Lib.hid (by
  have h := row_at (L := (.blk g 71 RL :: .own 3 (some ga) (some ⟨ga, oa, none⟩) k cc (ocs l) :: L)) (Reads.own 1 rfl) hil
  rw [hxg]; exact h)
 have OL := Lib.hid (show (oc x).length = 3 from rfl)
 obtain ⟨b, hb⟩ : ∃ b, b = opn x.st := ⟨_, rfl⟩
 have CO : Hid (∀ (L : List At) (w : World), St w0 X L w → Calls Try.prog 63 #[.agg (oc x).toArray] w fun e w' => e = .returned (.bool b) ∧ St w0 X L w') := Lib.hid (fun L w hs => by rw [hb]; exact open_st hs x)
 have CQ : Hid (∀ (w : World), St w0 X (.blk g 71 RL :: .own 3 (some ga) (some ⟨ga, oa, none⟩) k cc (ocs l) :: L) w → Calls Try.prog 71 #[.pointer (some ⟨g, 0, none⟩), .int .i64 (i : Int)] w fun e' w' => True ∧ ER w0 X L g cc ⟨ga, oa, none⟩ (some ga) (opensE z i) e' w') := Lib.hid (fun w hs => by
  rw [← e1, ← e2] at hs
  exact (opens_st hs ho hi).mono (fun e w' h => ⟨trivial, h.2.er⟩))
 have BAD : Hid (cap < p + n → ∀ (w : World), St w0 X (.blk g 71 RL :: .own 3 (some ga) (some ⟨ga, oa, none⟩) k cc (ocs l) :: L) w → ER w0 X L g cc ⟨ga, oa, none⟩ (some ga) (putE z i n) (.panicked (chS 184)) w) := Lib.hid (fun h w hs => by
  rw [← e1, ← e2] at hs
  have he : putE z i n = (z, 184) := by unfold putE; rw [if_pos (by rw [← hcap, ← hl, ← hx, ← hp]; exact h)]
  exact .inr (by rw [he]; exact ⟨(show (184 : Nat) ≠ 0 by decide), rfl, z, hs⟩))
 have hik : (i : Int) < (k : Int) := by omega
 have HZ : Hid (¬ cap < p + n → b = true → PutAt z z i n) := Lib.hid (fun h h2 => putAt_now (by rw [← hcap, ← hl, ← hx, ← hp]; exact h) (by rw [← hl, ← hx, ← hb]; exact h2))
 have HZ2 : Hid (¬ cap < p + n → b = false → (opensE z i).2 = 0 → PutAt z (putS (opensE z i).1 i { (opensE z i).1.l.getD i dz with st := 2 }) i n) := Lib.hid (fun h h2 h3 => putAt_opened ho hi (by rw [← hcap, ← hl, ← hx, ← hp]; exact h) (by rw [← hl, ← hx, ← hb]; exact h2) h3)
 have HQB : Hid (¬ cap < p + n → b = false → (opensE z i).2 ≠ 0 → putE z i n = (z, (opensE z i).2)) := Lib.hid (fun h h2 h3 => by
  unfold putE
  rw [if_neg (by rw [← hcap, ← hl, ← hx, ← hp]; exact h), if_neg (by rw [← hl, ← hx, ← hb, h2]; decide), if_neg h3])
 have HOK := Lib.hid (show (opensE z i).1.l.length = k by rw [(ho.opens i).2.2.2, hk])
 have HSS : Hid (∀ z1, PutAt z z1 i n → z1.c = z.c ∧ z1.w = z.w ∧ z1.l.length = k ∧ (z1.l.getD i dz).p = p ∧ z1.c.cap = cap ∧ z1.w < 1099511627776 ∧ putE z i n = (putF z1 i n (z1.l.getD i dz).st { st := 1, p := p }, 0)) := Lib.hid (fun z1 h => by
  obtain ⟨h1, h2, h3, h4, h5⟩ := h
  refine ⟨h1, h2, by rw [h3, hk], by rw [h4, hp, hx, hl], by rw [h1, hcap], by rw [h2]; exact hw, ?_⟩
  rw [h5, hp, hx, hl]; rfl)
 have E12 := Lib.hid (And.intro e1 e2)
 have HIK := Lib.hid (show i < k by omega)
 rw [e1, e2] at hs
 obtain ⟨O, hO⟩ : ∃ O, O = oc x := ⟨_, rfl⟩
 rw [← hO] at HR OL CO
 clear hRL hk hcap hl hx hp e1 e2 hb ho hi hw hxg hO hil
 have w1 : IntKind.i64.wrap ((cap : Int) - (p : Int)) = (cap : Int) - (p : Int) := IntWalk.i64_in _ (by omega)
 by_cases hbad : cap < p + n
 ·have f1 : decide ((n : Int) ≤ (cap : Int) - (p : Int)) = false := by simp; omega
  have hbad := Lib.hid hbad
  go_enter Try.func39, Try.ntmps39
  go_upto_region 1 with (first | ((with_reducible refine Se.isL (o := ⟨some 10, _, _, _, _, _⟩) ?_); (refine Se.toL rfl (Se.ld (o := ⟨some 10, _, _, _, _, _⟩) hs rfl rfl (Cell.blk 0 rfl R5.out) (by kernel_rfl) ?_))))
  refine Ch.region' 12 (fun wx => Blk wx g RL 71 ∧ wx.cell? ⟨ga, oa + i * 3 + 1, none⟩ = some (iv p)) (fun  | _ => false) (by kernel_rfl) (by decide +kernel) (⟨hs.drew.hold (.blk g 71 RL) (by simp), CP.out _ hs.drew⟩) ?_
  replace hs := hs.drew
  generalize w.drew = w at hs ⊢
  change Ch.CW _ _ _ _ _ [0, 1, 2, 3, 4, 5, 6, 7, 8, 9, 10, 11] _ _
  iterate 12 ((first | (refine Ch.pure (v := ?_) (by rfl) (by rfl) (by rfl) (fun wx hS => ?_) ?_; rotate_left; (focus (go_simp; (first | done | with_reducible rfl)))) | refine Ch.pure (v := _) (by rfl) (by rfl) (by rfl) (fun wx hS => Se.xl rfl rfl (by rw [hS.1.cell]; exact R2.out) (by decide +kernel)) ?_ | refine Ch.pure (v := _) (by rfl) (by rfl) (by rfl) (fun wx hS => Se.xl rfl rfl hS.2 (by decide +kernel)) ?_); (try simp only [Act.put, List.setIfInBounds_toArray, List.set_cons_zero, List.set_cons_succ]))
  refine Ch.done ?_
  try simp only [List.drop_succ_cons, List.drop_zero]
  go_wp2_with (first | (go_at_call 36; refine Calls.mono (must_f hs 184 (by decide)) ?_; clear hs; rintro e w ⟨rfl, hs⟩))
  exact ⟨rfl, trivial, BAD.out hbad.out _ hs⟩
 have f1 : decide ((n : Int) ≤ (cap : Int) - (p : Int)) = true := by simp; omega
 have HNB := Lib.hid hbad
 clear hbad BAD
 go_enter Try.func39, Try.ntmps39
 go_upto_region 1 with (first | ((with_reducible refine Se.isL (o := ⟨some 10, _, _, _, _, _⟩) ?_); (refine Se.toL rfl (Se.ld (o := ⟨some 10, _, _, _, _, _⟩) hs rfl rfl (Cell.blk 0 rfl R5.out) (by kernel_rfl) ?_))))
 refine Ch.region' 12 (fun wx => Blk wx g RL 71 ∧ wx.cell? ⟨ga, oa + i * 3 + 1, none⟩ = some (iv p)) (fun  | _ => false) (by kernel_rfl) (by decide +kernel) (⟨hs.drew.hold (.blk g 71 RL) (by simp), CP.out _ hs.drew⟩) ?_
 replace hs := hs.drew
 generalize w.drew = w at hs ⊢
 change Ch.CW _ _ _ _ _ [0, 1, 2, 3, 4, 5, 6, 7, 8, 9, 10, 11] _ _
 iterate 12 ((first | (refine Ch.pure (v := ?_) (by rfl) (by rfl) (by rfl) (fun wx hS => ?_) ?_; rotate_left; (focus (go_simp; (first | done | with_reducible rfl)))) | refine Ch.pure (v := _) (by rfl) (by rfl) (by rfl) (fun wx hS => Se.xl rfl rfl (by rw [hS.1.cell]; exact R2.out) (by decide +kernel)) ?_ | refine Ch.pure (v := _) (by rfl) (by rfl) (by rfl) (fun wx hS => Se.xl rfl rfl hS.2 (by decide +kernel)) ?_); (try simp only [Act.put, List.setIfInBounds_toArray, List.set_cons_zero, List.set_cons_succ]))
 refine Ch.done ?_
 try simp only [List.drop_succ_cons, List.drop_zero]
 go_upto_region 2 with (first | (go_at_call 36; refine Calls.mono (must_t hs 184) ?_; clear hs; rintro e w ⟨rfl, hs⟩))
 go_upto_if 30 with (first | ((with_reducible refine Se.isL (o := ⟨some 28, _, _, _, _, _⟩) ?_); (refine Se.toL rfl (Se.ldw (o := ⟨some 28, _, _, _, _, _⟩) hs rfl rfl (HR.out) ((by rw [OL.out]; kernel_rfl)) (by kernel_rfl) ?_))) | (go_at_call 63; refine Calls.mono (CO.out _ _ hs) ?_; clear hs; rintro e w ⟨rfl, hs⟩))
 go_cut [6] (fun s6 wx => s6 = .pointer (some ⟨ga, oa + i * 3, none⟩) ∧ ∃ z1, PutAt z z1 i n ∧ St w0 X (pZ g z1 (some ⟨ga, oa, none⟩) cc :: pL (some ga) (some ⟨ga, oa, none⟩) cc z1 :: L) wx)
 case first =>
  cases b with
  | true =>
   have HP := Lib.hid (HZ.out HNB.out rfl)
   clear HZ HZ2 HQB CQ
   go_wp2_with fail
   go_meet
   exact ⟨rfl, z, HP.out, by rw [E12.out.1, E12.out.2]; exact hs⟩
  | false =>
   obtain ⟨q, hq⟩ : ∃ q, q = opensE z i := ⟨_, rfl⟩
   rw [← hq] at CQ HQB HZ2 HOK
   by_cases hq0 : q.2 = 0
   ·have HP := Lib.hid (HZ2.out HNB.out rfl hq0)
    have CQ2 : Hid (∀ (w : World), St w0 X (.blk g 71 RL :: .own 3 (some ga) (some ⟨ga, oa, none⟩) k cc (ocs l) :: L) w → Calls Try.prog 71 #[.pointer (some ⟨g, 0, none⟩), .int .i64 (i : Int)] w fun e' w' => e' = .returned (.tuple #[]) ∧ St w0 X (pZ g q.1 (some ⟨ga, oa, none⟩) cc :: .own 3 (some ga) (some ⟨ga, oa, none⟩) k cc (ocs q.1.l) :: L) w') := Lib.hid (fun w hs => (CQ.out w hs).mono (by
     rintro e w ⟨_, ⟨_, h1, h2⟩ | ⟨h1, _⟩⟩
     ·refine ⟨h1, ?_⟩
      unfold pL at h2
      rw [HOK.out] at h2
      exact h2
     ·exact absurd hq0 h1))
    have HSL := Lib.hid (show i * 3 < (ocs q.1.l).length by rw [ocs_len, HOK.out]; have := HIK.out; omega)
    have HFI : Hid (∀ w, St w0 X (pZ g q.1 (some ⟨ga, oa, none⟩) cc :: .own 3 (some ga) (some ⟨ga, oa, none⟩) k cc ((ocs q.1.l).set (i * 3) (iv 2)) :: L) w → St w0 X (pZ g (putS q.1 i { q.1.l.getD i dz with st := 2 }) (some ⟨ga, oa, none⟩) cc :: pL (some ga) (some ⟨ga, oa, none⟩) cc (putS q.1 i { q.1.l.getD i dz with st := 2 }) :: L) w) := Lib.hid (fun w hs => by
     rw [pZ_putS, pL_putS (by rw [HOK.out]; exact HIK.out), HOK.out]
     exact hs)
    clear HZ HZ2 HQB CQ hq hq0 HOK
    go_wp2_with (first | ((with_reducible refine Se.isL (o := ⟨none, _, _, _, _, _⟩) ?_); ((first | refine Se.toL rfl (Se.soo 1 (v := .int _ _) hs rfl rfl rfl rfl rfl (by kernel_rfl) (HSL.out) ?_) | refine Se.toL rfl (Se.soo 1 (v := .bool _) hs rfl rfl rfl rfl rfl (by kernel_rfl) (HSL.out) ?_) | refine Se.toL rfl (Se.soo 1 (v := .slice _ _ _) hs rfl rfl rfl rfl rfl (by kernel_rfl) (HSL.out) ?_) | refine Se.toL rfl (Se.soo 1 (v := .pointer _) hs rfl rfl rfl rfl rfl (by kernel_rfl) (HSL.out) ?_) | refine Se.toL rfl (Se.soo 1 (v := .string _) hs rfl rfl rfl rfl rfl (by kernel_rfl) (HSL.out) ?_) | refine Se.toL rfl (Se.soo 1 (v := .map _) hs rfl rfl rfl rfl rfl (by kernel_rfl) (HSL.out) ?_) | refine Se.toL rfl (Se.soo 1 (v := .func _ _ _) hs rfl rfl rfl rfl rfl (by kernel_rfl) (HSL.out) ?_) | refine Se.toL rfl (Se.soo 1 (v := .nilFunc) hs rfl rfl rfl rfl rfl (by kernel_rfl) (HSL.out) ?_)); clear hs; intro w hs; try simp only [List.cons_append, List.nil_append, List.set_cons_zero, List.set_cons_succ] at hs)) | (go_at_call 71; refine Calls.mono (CQ2.out _ hs) ?_; clear hs; rintro e w ⟨rfl, hs⟩))
    go_meet
    exact ⟨rfl, _, HP.out, HFI.out _ hs⟩
   ·have HP := Lib.hid (HQB.out HNB.out rfl hq0)
    have CQ2 : Hid (∀ (w : World), St w0 X (.blk g 71 RL :: .own 3 (some ga) (some ⟨ga, oa, none⟩) k cc (ocs l) :: L) w → Calls Try.prog 71 #[.pointer (some ⟨g, 0, none⟩), .int .i64 (i : Int)] w fun e' w' => e' = .panicked (chS q.2) ∧ ∃ z', St w0 X (pZ g z' (some ⟨ga, oa, none⟩) cc :: pL (some ga) (some ⟨ga, oa, none⟩) cc z' :: L) w') := Lib.hid (fun w hs => (CQ.out w hs).mono (by
     rintro e w ⟨_, ⟨h1, _⟩ | ⟨_, h1, h2⟩⟩
     ·exact absurd h1 hq0
     ·exact ⟨h1, h2⟩))
    have HQ0 := Lib.hid hq0
    clear HZ HZ2 HQB CQ hq hq0 HOK
    go_wp2_with (first | (go_at_call 71; refine Calls.mono (CQ2.out _ hs) ?_; clear hs; rintro e w ⟨rfl, z', hs⟩))
    exact ⟨rfl, trivial, .inr (by rw [HP.out]; exact ⟨HQ0.out, rfl, z', hs⟩)⟩
 case rest =>
 clear hs
 rename World => w
 obtain ⟨rfl, z1, hz1, hs⟩ := hcut
 obtain ⟨-, -, k1, k2, k3, k4, k5⟩ := HSS.out z1 hz1
 clear HSS HZ HZ2 HQB CQ HOK CO OL HR CP R5 R2 E12 hz1
 obtain ⟨RL1, hRL1⟩ : ∃ RL1, RL1 = zcl z1 (some ⟨ga, oa, none⟩) cc := ⟨_, rfl⟩
 obtain ⟨l1, hl1⟩ : ∃ l, l = z1.l := ⟨_, rfl⟩
 obtain ⟨wn, hwn⟩ : ∃ n, n = z1.w := ⟨_, rfl⟩
 obtain ⟨wm, hwm⟩ : ∃ n, n = wn + 1 := ⟨_, rfl⟩
 obtain ⟨pn, hpn⟩ : ∃ m, m = p + n := ⟨_, rfl⟩
 obtain ⟨RL2, hRL2⟩ : ∃ R, R = zcl { z1 with w := wm } (some ⟨ga, oa, none⟩) cc := ⟨_, rfl⟩
 have e1 : pZ g z1 (some ⟨ga, oa, none⟩) cc = .blk g 71 RL1 := by rw [hRL1]
 have e2 : pL (some ga) (some ⟨ga, oa, none⟩) cc z1 = .own 3 (some ga) (some ⟨ga, oa, none⟩) k cc (ocs l1) := by unfold pL; rw [k1, ← hl1]
 have R6 := Lib.hid (show RL1[6]? = some (iv wn) by rw [hRL1, hwn]; rfl)
 have RQ := Lib.hid (show RL1.set 6 (.int .i64 ((wn : Int) + 1)) = RL2 by rw [hRL1, hRL2, hwm]; rfl)
 have R62 := Lib.hid (show RL2[6]? = some (iv wm) by rw [hRL2]; rfl)
 have R22 := Lib.hid (show RL2[2]? = some (iv cap) by rw [hRL2, ← k3]; rfl)
 have RLn := Lib.hid (show 6 < RL1.length by rw [hRL1]; exact (by decide : 6 < 7))
 have hil : i < l1.length := by rw [hl1, k1]; exact HIK.out
 obtain ⟨l2, hl2⟩ : ∃ l, l = l1.set i { l1.getD i dz with p := pn } := ⟨_, rfl⟩
 obtain ⟨l3, hl3⟩ : ∃ l, l = l2.set i { l2.getD i dz with r := wm } := ⟨_, rfl⟩
 obtain ⟨l4, hl4⟩ : ∃ l, l = l3.set i { l3.getD i dz with st := 14 } := ⟨_, rfl⟩
 have hil2 : i < l2.length := by rw [hl2, List.length_set]; exact hil
 have hil3 : i < l3.length := by rw [hl3, List.length_set]; exact hil2
 have CE1 := Lib.hid (show (ocs l1).set (i * 3 + 1) (iv pn) = ocs l2 by rw [hl2]; exact ocs_set_p l1 i hil pn)
 have CE2 := Lib.hid (show (ocs l2).set (i * 3 + 2) (iv wm) = ocs l3 by rw [hl3]; exact ocs_set_r l2 i hil2 wm)
 have CE3 := Lib.hid (show (ocs l3).set (i * 3) (iv 14) = ocs l4 by rw [hl4]; exact ocs_set l3 i hil3 14)
 have LE1 := Lib.hid (show i * 3 + 1 < (ocs l1).length by rw [ocs_len]; omega)
 have LE2 := Lib.hid (show i * 3 + 2 < (ocs l2).length by rw [ocs_len]; omega)
 have LE3 := Lib.hid (show i * 3 < (ocs l3).length by rw [ocs_len]; omega)
 have hp1 : l1[i].p = p := by rw [← getD_get hil, hl1, k2]
 have CL1 : Hid ((ocs l1)[i * 3 + 1]? = some (iv p)) := Lib.hid (by rw [ocs_at l1 i hil 1 (by decide), ← hp1]; rfl)
 have CL3 : Hid ((ocs l3)[i * 3 + 1]? = some (iv pn)) := Lib.hid (by
  rw [ocs_at l3 i hil3 1 (by decide), ← getD_get hil3, hl3, getD_set hil2, hl2, getD_set hil]; rfl)
 have E3 : l3 = l1.set i { st := (z1.l.getD i dz).st, p := pn, r := wm } := by rw [hl3, hl2, List.set_set, getD_set hil, hl1]
 have FI3 : Hid (pn ≠ cap → ∀ w, St w0 X (.blk g 71 RL2 :: .own 3 (some ga) (some ⟨ga, oa, none⟩) k cc (ocs l3) :: L) w → ER w0 X L g cc ⟨ga, oa, none⟩ (some ga) (putE z i n) (.returned (.tuple #[])) w) := Lib.hid (fun hc w hs => by
  have he : putF z1 i n (z1.l.getD i dz).st { st := 1, p := p } = { z1 with w := wm, l := l3 } := by
   unfold putF
   dsimp only
   rw [k3, ← hpn, if_neg hc, E3, ← hwn, ← hwm, hl1]
  rw [k5, he]
  refine .inl ⟨rfl, rfl, ?_⟩
  have hlen : l3.length = z1.l.length := by rw [E3, List.length_set, hl1]
  have e3 : pZ g { z1 with w := wm, l := l3 } (some ⟨ga, oa, none⟩) cc = .blk g 71 RL2 := by rw [hRL2]; unfold pZ zcl; dsimp only; rw [hlen]
  have e4 : pL (some ga) (some ⟨ga, oa, none⟩) cc { z1 with w := wm, l := l3 } = .own 3 (some ga) (some ⟨ga, oa, none⟩) k cc (ocs l3) := by unfold pL; dsimp only; rw [hlen, k1]
  rw [e3, e4]
  exact hs)
 have FI4 : Hid (pn = cap → ∀ w, St w0 X (.blk g 71 RL2 :: .own 3 (some ga) (some ⟨ga, oa, none⟩) k cc (ocs l4) :: L) w → ER w0 X L g cc ⟨ga, oa, none⟩ (some ga) (putE z i n) (.returned (.tuple #[])) w) := Lib.hid (fun hc w hs => by
  have he : putF z1 i n (z1.l.getD i dz).st { st := 1, p := p } = { z1 with w := wm, l := l4 } := by
   unfold putF
   dsimp only
   rw [k3, ← hpn, if_pos hc, hl4, E3, List.set_set, getD_set hil, ← hwn, ← hwm, hl1]
  rw [k5, he]
  refine .inl ⟨rfl, rfl, ?_⟩
  have hlen : l4.length = z1.l.length := by rw [hl4, List.length_set, E3, List.length_set, hl1]
  have e3 : pZ g { z1 with w := wm, l := l4 } (some ⟨ga, oa, none⟩) cc = .blk g 71 RL2 := by rw [hRL2]; unfold pZ zcl; dsimp only; rw [hlen]
  have e4 : pL (some ga) (some ⟨ga, oa, none⟩) cc { z1 with w := wm, l := l4 } = .own 3 (some ga) (some ⟨ga, oa, none⟩) k cc (ocs l4) := by unfold pL; dsimp only; rw [hlen, k1]
  rw [e3, e4]
  exact hs)
 have CP2 : Hid (∀ (w : World), St w0 X (.blk g 71 RL2 :: .own 3 (some ga) (some ⟨ga, oa, none⟩) k cc (ocs l3) :: L) w → w.cell? ⟨ga, oa + i * 3 + 1, none⟩ = some (iv pn)) := Lib.hid (fun w hs => by
  have h2 := ((Reads.own 1 rfl : Reads (.blk g 71 RL2 :: .own 3 (some ga) (some ⟨ga, oa, none⟩) k cc (ocs l3) :: L) _ _).cell (i * 3 + 1) (v := iv pn) CL3.out) w hs.hold
  rwa [← Nat.add_assoc] at h2)
 rw [e1, e2] at hs
 have w2 : IntKind.i64.wrap ((p : Int) + (n : Int)) = (pn : Int) := by rw [hpn, Int.natCast_add]; exact IntWalk.i64_in _ (by have := HNB.out; omega)
 have hwl : wn < 1099511627776 := by rw [hwn]; exact k4
 have CC1 : Hid (Cell (.blk g 71 RL2 :: .own 3 (some ga) (some ⟨ga, oa, none⟩) k cc (ocs l1) :: L) ga (oa + i * 3 + 1) (iv p)) := Lib.hid (fun w hw => by
  have h2 := ((Reads.own 1 rfl : Reads (.blk g 71 RL2 :: .own 3 (some ga) (some ⟨ga, oa, none⟩) k cc (ocs l1) :: L) _ _).cell (i * 3 + 1) (v := iv p) CL1.out) w hw
  rwa [← Nat.add_assoc] at h2)
 clear hRL1 hl1 hwn hRL2 e1 e2 hil hl2 hl3 hl4 hil2 hil3 hp1 E3 k1 k2 k3 k4 k5 hwm hpn w1 f1
 by_cases hc : pn = cap
 ·have f2 : ((pn : Int) == (cap : Int)) = true := by simp; omega
  have HF := Lib.hid (FI4.out hc)
  clear FI3 FI4 hc
  go_upto_region 6 with (first | ((with_reducible refine Se.isL (o := ⟨some 40, _, _, _, _, _⟩) ?_); (refine Se.toL rfl (Se.ld (o := ⟨some 40, _, _, _, _, _⟩) hs rfl rfl (Cell.blk 0 rfl R6.out) (by kernel_rfl) ?_))) | ((with_reducible refine Se.isL (o := ⟨none, _, _, _, _, _⟩) ?_); ((first | refine Se.toL rfl (Se.soq 0 (v := .int _ _) hs rfl rfl rfl rfl rfl (by kernel_rfl) (RLn.out) (RQ.out) ?_) | refine Se.toL rfl (Se.soq 0 (v := .bool _) hs rfl rfl rfl rfl rfl (by kernel_rfl) (RLn.out) (RQ.out) ?_) | refine Se.toL rfl (Se.soq 0 (v := .slice _ _ _) hs rfl rfl rfl rfl rfl (by kernel_rfl) (RLn.out) (RQ.out) ?_) | refine Se.toL rfl (Se.soq 0 (v := .pointer _) hs rfl rfl rfl rfl rfl (by kernel_rfl) (RLn.out) (RQ.out) ?_) | refine Se.toL rfl (Se.soq 0 (v := .string _) hs rfl rfl rfl rfl rfl (by kernel_rfl) (RLn.out) (RQ.out) ?_) | refine Se.toL rfl (Se.soq 0 (v := .map _) hs rfl rfl rfl rfl rfl (by kernel_rfl) (RLn.out) (RQ.out) ?_) | refine Se.toL rfl (Se.soq 0 (v := .func _ _ _) hs rfl rfl rfl rfl rfl (by kernel_rfl) (RLn.out) (RQ.out) ?_) | refine Se.toL rfl (Se.soq 0 (v := .nilFunc) hs rfl rfl rfl rfl rfl (by kernel_rfl) (RLn.out) (RQ.out) ?_)); clear hs; intro w hs; try simp only [List.cons_append, List.nil_append, List.set_cons_zero] at hs)))
  refine Ch.region' 17 (fun wx => Blk wx g RL2 71) (fun | 5 => true | 14 => true | _ => false) (by kernel_rfl) (by decide +kernel) (hs.drew.hold (.blk g 71 RL2) (by simp)) ?_
  replace hs := hs.drew
  generalize w.drew = w at hs ⊢
  change Ch.CW _ _ _ _ _ [0, 1, 2, 3, 4, 5, 6, 7, 8, 9, 10, 11, 12, 13, 14, 15, 16] _ _
  iterate 5 ((first | (refine Ch.pure (v := ?_) (by rfl) (by rfl) (by rfl) (fun wx hS => ?_) ?_; rotate_left; (focus (go_simp; (first | done | with_reducible rfl))))); (try simp only [Act.put, List.setIfInBounds_toArray, List.set_cons_zero, List.set_cons_succ]))
  refine Ch.noise (by rfl) (by rfl) (by rfl) (Se.ld hs rfl rfl CC1.out (by kernel_rfl) ?_)
  refine ⟨hs.hold (.blk g 71 RL2) (by simp), ?_⟩
  (try simp only [Act.put, List.setIfInBounds_toArray, List.set_cons_zero, List.set_cons_succ])
  iterate 8 ((first | (refine Ch.pure (v := ?_) (by rfl) (by rfl) (by rfl) (fun wx hS => ?_) ?_; rotate_left; (focus (go_simp; (first | done | with_reducible rfl)))) | refine Ch.pure (v := _) (by rfl) (by rfl) (by rfl) (fun wx hS => Se.xl rfl rfl (by rw [hS.cell]; exact R62.out) (by decide +kernel)) ?_); (try simp only [Act.put, List.setIfInBounds_toArray, List.set_cons_zero, List.set_cons_succ]))
  refine Ch.noise (by rfl) (by rfl) (by rfl) (Se.sooe 1 (v := iv pn) hs rfl rfl rfl rfl rfl (by kernel_rfl) (Nat.add_assoc _ _ _) LE1.out CE1.out ?_)
  clear hs
  intro w hs
  simp only [List.cons_append, List.nil_append, List.set_cons_zero, List.set_cons_succ] at hs
  refine ⟨hs.hold (.blk g 71 RL2) (by simp), ?_⟩
  (try simp only [Act.put, List.setIfInBounds_toArray, List.set_cons_zero, List.set_cons_succ])
  iterate 2 ((first | (refine Ch.pure (v := ?_) (by rfl) (by rfl) (by rfl) (fun wx hS => ?_) ?_; rotate_left; (focus (go_simp; (first | done | with_reducible rfl))))); (try simp only [Act.put, List.setIfInBounds_toArray, List.set_cons_zero, List.set_cons_succ]))
  refine Ch.done ?_
  try simp only [List.drop_succ_cons, List.drop_zero]
  go_upto_region 7 with (first | ((with_reducible refine Se.isL (o := ⟨none, Op.store 3 _ _, _, _, _, _⟩) ?_); ((first | refine Se.toL rfl (Se.sooe 1 (v := .int _ _) hs rfl rfl rfl rfl rfl (by kernel_rfl) ((Nat.add_assoc _ _ _)) (LE2.out) (CE2.out) ?_) | refine Se.toL rfl (Se.sooe 1 (v := .bool _) hs rfl rfl rfl rfl rfl (by kernel_rfl) ((Nat.add_assoc _ _ _)) (LE2.out) (CE2.out) ?_) | refine Se.toL rfl (Se.sooe 1 (v := .slice _ _ _) hs rfl rfl rfl rfl rfl (by kernel_rfl) ((Nat.add_assoc _ _ _)) (LE2.out) (CE2.out) ?_) | refine Se.toL rfl (Se.sooe 1 (v := .pointer _) hs rfl rfl rfl rfl rfl (by kernel_rfl) ((Nat.add_assoc _ _ _)) (LE2.out) (CE2.out) ?_) | refine Se.toL rfl (Se.sooe 1 (v := .string _) hs rfl rfl rfl rfl rfl (by kernel_rfl) ((Nat.add_assoc _ _ _)) (LE2.out) (CE2.out) ?_) | refine Se.toL rfl (Se.sooe 1 (v := .map _) hs rfl rfl rfl rfl rfl (by kernel_rfl) ((Nat.add_assoc _ _ _)) (LE2.out) (CE2.out) ?_) | refine Se.toL rfl (Se.sooe 1 (v := .func _ _ _) hs rfl rfl rfl rfl rfl (by kernel_rfl) ((Nat.add_assoc _ _ _)) (LE2.out) (CE2.out) ?_) | refine Se.toL rfl (Se.sooe 1 (v := .nilFunc) hs rfl rfl rfl rfl rfl (by kernel_rfl) ((Nat.add_assoc _ _ _)) (LE2.out) (CE2.out) ?_)); clear hs; intro w hs; try simp only [List.cons_append, List.nil_append, List.set_cons_zero, List.set_cons_succ] at hs)))
  refine Ch.region' 10 (fun wx => Blk wx g RL2 71 ∧ wx.cell? ⟨ga, oa + i * 3 + 1, none⟩ = some (iv pn)) (fun  | _ => false) (by kernel_rfl) (by decide +kernel) (⟨hs.drew.hold (.blk g 71 RL2) (by simp), CP2.out _ hs.drew⟩) ?_
  replace hs := hs.drew
  generalize w.drew = w at hs ⊢
  change Ch.CW _ _ _ _ _ [0, 1, 2, 3, 4, 5, 6, 7, 8, 9] _ _
  iterate 10 ((first | (refine Ch.pure (v := ?_) (by rfl) (by rfl) (by rfl) (fun wx hS => ?_) ?_; rotate_left; (focus (go_simp; (first | done | with_reducible rfl)))) | refine Ch.pure (v := _) (by rfl) (by rfl) (by rfl) (fun wx hS => Se.xl rfl rfl (by rw [hS.1.cell]; exact R22.out) (by decide +kernel)) ?_ | refine Ch.pure (v := _) (by rfl) (by rfl) (by rfl) (fun wx hS => Se.xl rfl rfl hS.2 (by decide +kernel)) ?_); (try simp only [Act.put, List.setIfInBounds_toArray, List.set_cons_zero, List.set_cons_succ]))
  refine Ch.done ?_
  try simp only [List.drop_succ_cons, List.drop_zero]
  go_wp2_with (first | ((with_reducible refine Se.isL (o := ⟨none, _, _, _, _, _⟩) ?_); ((first | refine Se.toL rfl (Se.soo 1 (v := .int _ _) hs rfl rfl rfl rfl rfl (by kernel_rfl) (LE3.out) ?_) | refine Se.toL rfl (Se.soo 1 (v := .bool _) hs rfl rfl rfl rfl rfl (by kernel_rfl) (LE3.out) ?_) | refine Se.toL rfl (Se.soo 1 (v := .slice _ _ _) hs rfl rfl rfl rfl rfl (by kernel_rfl) (LE3.out) ?_) | refine Se.toL rfl (Se.soo 1 (v := .pointer _) hs rfl rfl rfl rfl rfl (by kernel_rfl) (LE3.out) ?_) | refine Se.toL rfl (Se.soo 1 (v := .string _) hs rfl rfl rfl rfl rfl (by kernel_rfl) (LE3.out) ?_) | refine Se.toL rfl (Se.soo 1 (v := .map _) hs rfl rfl rfl rfl rfl (by kernel_rfl) (LE3.out) ?_) | refine Se.toL rfl (Se.soo 1 (v := .func _ _ _) hs rfl rfl rfl rfl rfl (by kernel_rfl) (LE3.out) ?_) | refine Se.toL rfl (Se.soo 1 (v := .nilFunc) hs rfl rfl rfl rfl rfl (by kernel_rfl) (LE3.out) ?_)); clear hs; intro w hs; try simp only [List.cons_append, List.nil_append, List.set_cons_zero, List.set_cons_succ] at hs)))
  go_end0
  have CE4 : (ocs l3).set (i * 3) (.int .i64 14) = ocs l4 := CE3.out
  rw [CE4] at hs
  first | exact HF.out _ hs | exact ⟨trivial, HF.out _ hs⟩
 ·have f2 : ((pn : Int) == (cap : Int)) = false := by simp; omega
  have HF := Lib.hid (FI3.out hc)
  clear FI3 FI4 hc
  go_upto_region 6 with (first | ((with_reducible refine Se.isL (o := ⟨some 40, _, _, _, _, _⟩) ?_); (refine Se.toL rfl (Se.ld (o := ⟨some 40, _, _, _, _, _⟩) hs rfl rfl (Cell.blk 0 rfl R6.out) (by kernel_rfl) ?_))) | ((with_reducible refine Se.isL (o := ⟨none, _, _, _, _, _⟩) ?_); ((first | refine Se.toL rfl (Se.soq 0 (v := .int _ _) hs rfl rfl rfl rfl rfl (by kernel_rfl) (RLn.out) (RQ.out) ?_) | refine Se.toL rfl (Se.soq 0 (v := .bool _) hs rfl rfl rfl rfl rfl (by kernel_rfl) (RLn.out) (RQ.out) ?_) | refine Se.toL rfl (Se.soq 0 (v := .slice _ _ _) hs rfl rfl rfl rfl rfl (by kernel_rfl) (RLn.out) (RQ.out) ?_) | refine Se.toL rfl (Se.soq 0 (v := .pointer _) hs rfl rfl rfl rfl rfl (by kernel_rfl) (RLn.out) (RQ.out) ?_) | refine Se.toL rfl (Se.soq 0 (v := .string _) hs rfl rfl rfl rfl rfl (by kernel_rfl) (RLn.out) (RQ.out) ?_) | refine Se.toL rfl (Se.soq 0 (v := .map _) hs rfl rfl rfl rfl rfl (by kernel_rfl) (RLn.out) (RQ.out) ?_) | refine Se.toL rfl (Se.soq 0 (v := .func _ _ _) hs rfl rfl rfl rfl rfl (by kernel_rfl) (RLn.out) (RQ.out) ?_) | refine Se.toL rfl (Se.soq 0 (v := .nilFunc) hs rfl rfl rfl rfl rfl (by kernel_rfl) (RLn.out) (RQ.out) ?_)); clear hs; intro w hs; try simp only [List.cons_append, List.nil_append, List.set_cons_zero] at hs)))
  refine Ch.region' 17 (fun wx => Blk wx g RL2 71) (fun | 5 => true | 14 => true | _ => false) (by kernel_rfl) (by decide +kernel) (hs.drew.hold (.blk g 71 RL2) (by simp)) ?_
  replace hs := hs.drew
  generalize w.drew = w at hs ⊢
  change Ch.CW _ _ _ _ _ [0, 1, 2, 3, 4, 5, 6, 7, 8, 9, 10, 11, 12, 13, 14, 15, 16] _ _
  iterate 5 ((first | (refine Ch.pure (v := ?_) (by rfl) (by rfl) (by rfl) (fun wx hS => ?_) ?_; rotate_left; (focus (go_simp; (first | done | with_reducible rfl))))); (try simp only [Act.put, List.setIfInBounds_toArray, List.set_cons_zero, List.set_cons_succ]))
  refine Ch.noise (by rfl) (by rfl) (by rfl) (Se.ld hs rfl rfl CC1.out (by kernel_rfl) ?_)
  refine ⟨hs.hold (.blk g 71 RL2) (by simp), ?_⟩
  (try simp only [Act.put, List.setIfInBounds_toArray, List.set_cons_zero, List.set_cons_succ])
  iterate 8 ((first | (refine Ch.pure (v := ?_) (by rfl) (by rfl) (by rfl) (fun wx hS => ?_) ?_; rotate_left; (focus (go_simp; (first | done | with_reducible rfl)))) | refine Ch.pure (v := _) (by rfl) (by rfl) (by rfl) (fun wx hS => Se.xl rfl rfl (by rw [hS.cell]; exact R62.out) (by decide +kernel)) ?_); (try simp only [Act.put, List.setIfInBounds_toArray, List.set_cons_zero, List.set_cons_succ]))
  refine Ch.noise (by rfl) (by rfl) (by rfl) (Se.sooe 1 (v := iv pn) hs rfl rfl rfl rfl rfl (by kernel_rfl) (Nat.add_assoc _ _ _) LE1.out CE1.out ?_)
  clear hs
  intro w hs
  simp only [List.cons_append, List.nil_append, List.set_cons_zero, List.set_cons_succ] at hs
  refine ⟨hs.hold (.blk g 71 RL2) (by simp), ?_⟩
  (try simp only [Act.put, List.setIfInBounds_toArray, List.set_cons_zero, List.set_cons_succ])
  iterate 2 ((first | (refine Ch.pure (v := ?_) (by rfl) (by rfl) (by rfl) (fun wx hS => ?_) ?_; rotate_left; (focus (go_simp; (first | done | with_reducible rfl))))); (try simp only [Act.put, List.setIfInBounds_toArray, List.set_cons_zero, List.set_cons_succ]))
  refine Ch.done ?_
  try simp only [List.drop_succ_cons, List.drop_zero]
  go_upto_region 7 with (first | ((with_reducible refine Se.isL (o := ⟨none, Op.store 3 _ _, _, _, _, _⟩) ?_); ((first | refine Se.toL rfl (Se.sooe 1 (v := .int _ _) hs rfl rfl rfl rfl rfl (by kernel_rfl) ((Nat.add_assoc _ _ _)) (LE2.out) (CE2.out) ?_) | refine Se.toL rfl (Se.sooe 1 (v := .bool _) hs rfl rfl rfl rfl rfl (by kernel_rfl) ((Nat.add_assoc _ _ _)) (LE2.out) (CE2.out) ?_) | refine Se.toL rfl (Se.sooe 1 (v := .slice _ _ _) hs rfl rfl rfl rfl rfl (by kernel_rfl) ((Nat.add_assoc _ _ _)) (LE2.out) (CE2.out) ?_) | refine Se.toL rfl (Se.sooe 1 (v := .pointer _) hs rfl rfl rfl rfl rfl (by kernel_rfl) ((Nat.add_assoc _ _ _)) (LE2.out) (CE2.out) ?_) | refine Se.toL rfl (Se.sooe 1 (v := .string _) hs rfl rfl rfl rfl rfl (by kernel_rfl) ((Nat.add_assoc _ _ _)) (LE2.out) (CE2.out) ?_) | refine Se.toL rfl (Se.sooe 1 (v := .map _) hs rfl rfl rfl rfl rfl (by kernel_rfl) ((Nat.add_assoc _ _ _)) (LE2.out) (CE2.out) ?_) | refine Se.toL rfl (Se.sooe 1 (v := .func _ _ _) hs rfl rfl rfl rfl rfl (by kernel_rfl) ((Nat.add_assoc _ _ _)) (LE2.out) (CE2.out) ?_) | refine Se.toL rfl (Se.sooe 1 (v := .nilFunc) hs rfl rfl rfl rfl rfl (by kernel_rfl) ((Nat.add_assoc _ _ _)) (LE2.out) (CE2.out) ?_)); clear hs; intro w hs; try simp only [List.cons_append, List.nil_append, List.set_cons_zero, List.set_cons_succ] at hs)))
  refine Ch.region' 10 (fun wx => Blk wx g RL2 71 ∧ wx.cell? ⟨ga, oa + i * 3 + 1, none⟩ = some (iv pn)) (fun  | _ => false) (by kernel_rfl) (by decide +kernel) (⟨hs.drew.hold (.blk g 71 RL2) (by simp), CP2.out _ hs.drew⟩) ?_
  replace hs := hs.drew
  generalize w.drew = w at hs ⊢
  change Ch.CW _ _ _ _ _ [0, 1, 2, 3, 4, 5, 6, 7, 8, 9] _ _
  iterate 10 ((first | (refine Ch.pure (v := ?_) (by rfl) (by rfl) (by rfl) (fun wx hS => ?_) ?_; rotate_left; (focus (go_simp; (first | done | with_reducible rfl)))) | refine Ch.pure (v := _) (by rfl) (by rfl) (by rfl) (fun wx hS => Se.xl rfl rfl (by rw [hS.1.cell]; exact R22.out) (by decide +kernel)) ?_ | refine Ch.pure (v := _) (by rfl) (by rfl) (by rfl) (fun wx hS => Se.xl rfl rfl hS.2 (by decide +kernel)) ?_); (try simp only [Act.put, List.setIfInBounds_toArray, List.set_cons_zero, List.set_cons_succ]))
  refine Ch.done ?_
  try simp only [List.drop_succ_cons, List.drop_zero]
  go_wp2_with fail
  go_end0
  first | exact HF.out _ hs | exact ⟨trivial, HF.out _ hs⟩
end Zo
end Go.Proofs.Ythpgkkfahiglnaa


/- Layer 28: Manage and ManageAll on the copy. No condition but Go's own limits. Printed by wip/gen_zoneman.py. -/
import Derived.Test.YthpgkkfahiglnaaZoneNum
import Derived.Test.YthpgkkfahiglnaaMaps
set_option maxRecDepth 100000
set_option maxHeartbeats 4000000
set_option linter.unusedSimpArgs false
set_option linter.unusedVariables false
namespace Go.Proofs.Ythpgkkfahiglnaa
open Go Go.RowKit
namespace Zo
open Se (St At Reads Cell)
open Li (Rd Blk Fr)
variable {w0 w : World} {X : List Nat} {L : List At}
attribute [local irreducible] Calls
attribute [local go_sem] eql_nil
theorem zAct : (Try.prog.info? 93).bind (·.zero) = some .nilFunc := by kernel_rfl
theorem mlk {P : Program} {o : Oper} {a : Act} {G : Value → World → Prop} (hs : St w0 X L w) {ty : TypeId} {m x : Operand} (ho : o.op = .lookup ty m x true) {g : Nat} (hm : a.eval m = .map (some g)) {kd : IntKind} {z : Int} (hx : a.eval x = .int kd z) {es : List MapEntry} {c : Nat} (hk : Se.mpa g es c ∈ L) {kt et : TypeId} (ht : P.underlying ty = some (.map kt et)) (hd : P.underlying kt = some (.int kd)) {zv : Value} (hz : (P.info? et).bind (·.zero) = some zv) {r : Option (Nat × Value)} (hf : Instr.findNow (.int kd) (.int kd z) es 0 = some r) {v : Value} {b : Bool} (hv : r.elim zv (·.2) = v) (hb : r.isSome = b)
  (h : G (.tuple #[v, .bool b]) w) : Hv.Gives P o a w G := Se.ml hs ho hm hx hk ht hd hz hf (by rw [hv, hb]; exact h)
theorem zSl : (Try.prog.info? 59).bind (fun i => i.zero.map (·.cells.toList)) = some [.slice none 0 0] := by kernel_rfl
abbrev actM : List MapEntry := [Se.me .i64 1 (.func (.func 73) #[] #[]) 0, Se.me .i64 2 (.func (.func 74) #[] #[]) 1, Se.me .i64 3 (.func (.func 75) #[] #[]) 2, Se.me .i64 4 (.func (.func 76) #[] #[]) 3, Se.me .i64 5 (.func (.func 77) #[] #[]) 4]
theorem five {a : Int} (h : a < 1 ∨ 5 < a) : Instr.findNow (.int .i64) (.int .i64 a) actM 0 = some none := by
 rcases MapKept.findNow_spec (d := .int .i64) (k := .int .i64 a) (by simp [MapKept.IsKey]) actM 0 (by simp [MapKept.IsKey, Se.me]) with ⟨h1, _⟩ | ⟨j, e, _, he, hk⟩
 ·exact h1
 ·have := List.mem_of_getElem? he
  simp [Se.me] at this
  rcases this with rfl | rfl | rfl | rfl | rfl <;> simp at hk <;> omega
theorem actions_st (hs : St w0 X L w) : Calls Try.prog 45 #[] w fun e w' => ∃ gm, e = .returned (.map (some gm)) ∧ St w0 X (Se.mpa gm actM 5 :: L) w' := by
 go_enter Try.func45, Try.ntmps45
 go_wp2_with (first | ((with_reducible refine Se.isL (o := ⟨some 1, _, _, _, _, _⟩) ?_); (refine Se.toL rfl (Se.mm (o := ⟨some 1, _, _, _, _, _⟩) hs rfl ?_); clear hs; rintro w gm - hs)) | ((with_reducible refine Se.isL (o := ⟨none, _, _, _, _, _⟩) ?_); ((first | refine Se.toL rfl (Se.mi 0 (v := .int _ _) hs rfl rfl rfl rfl rfl Try.underlying95 Try.underlying48 (by rfl) ?_) | refine Se.toL rfl (Se.mi 0 (v := .bool _) hs rfl rfl rfl rfl rfl Try.underlying95 Try.underlying48 (by rfl) ?_) | refine Se.toL rfl (Se.mi 0 (v := .string _) hs rfl rfl rfl rfl rfl Try.underlying95 Try.underlying48 (by rfl) ?_) | refine Se.toL rfl (Se.mi 0 (v := .func _ _ _) hs rfl rfl rfl rfl rfl Try.underlying95 Try.underlying48 (by rfl) ?_)); clear hs; intro w hs; try simp only [List.set_cons_zero, List.nil_append, List.cons_append, Nat.reduceAdd] at hs)))
 go_ret
 exact ⟨gm, rfl, hs⟩
theorem OkZ.act {z : Zs} (h : OkZ z) {i : Nat} (hi : i < z.l.length) (a : Nat) : OkZ (actE z i a).1 ∧ (actE z i a).1.c = z.c ∧ (actE z i a).1.w = z.w ∧ (actE z i a).1.l.length = z.l.length := by
 have hx := h.2.2.2.2.2.2.2.2.2 _ (getD_mem hi)
 obtain ⟨o1, o2, o3, o4⟩ := h.opens i
 rw [actE_x rfl rfl]
 have P : ∀ (x : Zn), x.st ≤ 15 ∧ (1 ≤ x.st ∧ (x.st ≤ 4 ∨ 13 ≤ x.st)) ∧ x.p ≤ z.c.cap ∧ x.r ≤ z.w → OkZ (putS z i x) ∧ (putS z i x).c = z.c ∧ (putS z i x).w = z.w ∧ (putS z i x).l.length = z.l.length := fun x hx => ⟨h.set i z.w (Nat.le_refl _) hx, rfl, rfl, by simp [putS]⟩
 have P2 : ∀ (x : Zn), x.st ≤ 15 ∧ (1 ≤ x.st ∧ (x.st ≤ 4 ∨ 13 ≤ x.st)) ∧ x.p ≤ z.c.cap ∧ x.r ≤ z.w → OkZ (putS (opensE z i).1 i x) ∧ (putS (opensE z i).1 i x).c = z.c ∧ (putS (opensE z i).1 i x).w = z.w ∧ (putS (opensE z i).1 i x).l.length = z.l.length := fun x hx => ⟨o1.set i _ (Nat.le_refl _) (by rw [o2, o3]; exact hx), o2, o3, by simp [putS, o4]⟩
 have T : OkZ z ∧ z.c = z.c ∧ z.w = z.w ∧ z.l.length = z.l.length := ⟨h, rfl, rfl, rfl⟩
 split
 ·split
  ·exact P _ ⟨by simp, by simp, hx.2.2.1, hx.2.2.2⟩
  ·exact T
 ·split
  ·exact T
  ·split
   ·split
    ·exact P _ ⟨by simp, by simp, hx.2.2.1, hx.2.2.2⟩
    ·split
     ·exact P2 _ ⟨by simp, by simp, hx.2.2.1, hx.2.2.2⟩
     ·exact T
   ·split
    ·exact P _ ⟨by unfold closeZ; dsimp only; split <;> omega, by unfold closeZ; dsimp only; split <;> omega, hx.2.2.1, hx.2.2.2⟩
    ·split
     ·exact P _ ⟨by simp, by simp, Nat.le_refl _, hx.2.2.2⟩
     ·exact P _ ⟨by simp, by simp, Nat.zero_le _, hx.2.2.2⟩
theorem con_eq (a st : Nat) (ha : 1 ≤ a ∧ a ≤ 5) : (conL (a : Int)).contains (st : Int) = concE a st := by
 have h : a = 1 ∨ a = 2 ∨ a = 3 ∨ a = 4 ∨ a = 5 := by omega
 rcases h with rfl | rfl | rfl | rfl | rfl <;> (rw [Bool.eq_iff_iff]; simp [conL, concE, opn, atv]; try omega)
theorem man0 {g cc gA gI : Nat} {z : Zs} {a : Addr} {r : Option Nat} (hs : St w0 X (pZ g z (some a) cc :: pL r (some a) cc z :: L) w) (ho : OkZ z) {a0 : Int} (h5 : a0 < 1 ∨ 5 < a0) {i : Int} (hI : Cell L gI 0 (.int .i64 i)) (hA : Cell L gA 0 (.int .i64 a0)) :
  Calls Try.prog 44 #[.pointer (some ⟨g, 0, none⟩), .pointer (some ⟨gA, 0, none⟩), .pointer (some ⟨gI, 0, none⟩)] w fun e' w' => True ∧ ER w0 X L g cc a r (manageE z i a0) e' w' := by
 obtain ⟨RL, hRL⟩ : ∃ RL, RL = zcl z (some a) cc := ⟨_, rfl⟩
 obtain ⟨k, hk⟩ : ∃ n, n = z.l.length := ⟨_, rfl⟩
 have hk1 : k ≤ 4096 := by rw [hk, ho.1]; exact ho.2.2.1
 have hk0 : 1 ≤ k := by rw [hk, ho.1]; exact ho.2.1
 have R5 := Lib.hid (show RL[5]? = some (.slice (some a) k cc) by rw [hRL, hk]; rfl)
 have e1 : pZ g z (some a) cc = .blk g 71 RL := by rw [hRL]
 have HA : Hid (∀ (M : List At), Cell (M ++ (.blk g 71 RL :: pL r (some a) cc z :: L)) gA 0 (.int .i64 a0)) := Lib.hid (fun M => capp M (capp [_, _] hA))
 have BAD : Hid (manageE z i a0 = (z, 2) → ∀ (w : World), St w0 X (.blk g 71 RL :: pL r (some a) cc z :: L) w → ER w0 X L g cc a r (manageE z i a0) (.panicked (chS 2)) w) := Lib.hid (fun he w hs => by
  rw [← e1] at hs
  exact .inr (by rw [he]; exact ⟨(show (2 : Nat) ≠ 0 by decide), rfl, z, hs⟩))
 rw [e1] at hs
 have E1 := Lib.hid e1
 have HK := Lib.hid hk
 have HRL := Lib.hid hRL
 clear hRL hA e1
 have HI : Hid (∀ (M : List At), Cell (M ++ (.blk g 71 RL :: pL r (some a) cc z :: L)) gI 0 (.int .i64 i)) := Lib.hid (fun M => capp M (capp [_, _] hI))
 have HE := Lib.hid (BAD.out (by unfold manageE; rw [if_pos (by omega)]))
 have H5 := Lib.hid h5
 clear BAD hI h5 hk ho
 go_enter Try.func44, Try.ntmps44
 go_upto_region 0 with (fail)
 refine Ch.region' 8 (fun wx => wx.cell? ⟨gA, 0, none⟩ = some (.int .i64 a0)) (fun | 0 => true | 2 => true | _ => false) (by kernel_rfl) (by decide +kernel) (HA.out [] _ hs.drew.hold) ?_
 replace hs := hs.drew
 generalize w.drew = w at hs ⊢
 change Ch.CW _ _ _ _ _ [0, 1, 2, 3, 4, 5, 6, 7] _ _
 refine Ch.noise (by rfl) (by rfl) (by rfl) ?_
 refine Se.gcall (f := 45) (args := #[]) ?_ ?_
 ·go_simp
 refine Calls.mono (actions_st hs) ?_
 clear hs
 rintro e w ⟨gm, rfl, hs⟩
 refine ⟨_, rfl, HA.out [_] _ hs.hold, ?_⟩
 (try simp only [Act.put, List.setIfInBounds_toArray, List.set_cons_zero, List.set_cons_succ])
 iterate 1 ((first | (refine Ch.pure (v := ?_) (by rfl) (by rfl) (by rfl) (fun wx hS => ?_) ?_; rotate_left; (focus (go_simp; (first | done | with_reducible rfl)))) | refine Ch.pure (v := _) (by rfl) (by rfl) (by rfl) (fun wx hS => Se.xl rfl rfl hS (by decide +kernel)) ?_); (try simp only [Act.put, List.setIfInBounds_toArray, List.set_cons_zero, List.set_cons_succ]))
 refine Ch.noise (by rfl) (by rfl) (by rfl) (mlk hs rfl rfl rfl List.mem_cons_self Try.underlying95 Try.underlying48 zAct (five H5.out) (v := .nilFunc) (b := false) rfl rfl ?_)
 refine ⟨HA.out [_] _ hs.hold, ?_⟩
 (try simp only [Act.put, List.setIfInBounds_toArray, List.set_cons_zero, List.set_cons_succ])
 iterate 5 ((first | (refine Ch.pure (v := ?_) (by rfl) (by rfl) (by rfl) (fun wx hS => ?_) ?_; rotate_left; (focus (go_simp; (first | done | with_reducible rfl))))); (try simp only [Act.put, List.setIfInBounds_toArray, List.set_cons_zero, List.set_cons_succ]))
 refine Ch.done ?_
 try simp only [List.drop_succ_cons, List.drop_zero]
 go_upto_region 1 with (fail)
 refine Ch.region' 12 (fun wx => Blk wx g RL 71 ∧ wx.cell? ⟨gI, 0, none⟩ = some (.int .i64 i)) (fun | 9 => true | 10 => true | _ => false) (by kernel_rfl) (by decide +kernel) (⟨hs.drew.hold (.blk g 71 RL) (by simp), HI.out [_] _ hs.drew.hold⟩) ?_
 replace hs := hs.drew
 generalize w.drew = w at hs ⊢
 change Ch.CW _ _ _ _ _ [0, 1, 2, 3, 4, 5, 6, 7, 8, 9, 10, 11] _ _
 iterate 2 ((first | (refine Ch.pure (v := ?_) (by rfl) (by rfl) (by rfl) (fun wx hS => ?_) ?_; rotate_left; (focus (go_simp; (first | done | with_reducible rfl))))); (try simp only [Act.put, List.setIfInBounds_toArray, List.set_cons_zero, List.set_cons_succ]))
 iterate 9 (refine Ch.skip (by rfl) (by rfl) ?_; (try simp only [Act.put, List.setIfInBounds_toArray, List.set_cons_zero, List.set_cons_succ]))
 iterate 1 ((first | (refine Ch.pure (v := ?_) (by rfl) (by rfl) (by rfl) (fun wx hS => ?_) ?_; rotate_left; (focus (go_simp; (first | done | with_reducible rfl))))); (try simp only [Act.put, List.setIfInBounds_toArray, List.set_cons_zero, List.set_cons_succ]))
 refine Ch.done ?_
 try simp only [List.drop_succ_cons, List.drop_zero]
 go_wp2_with (first | (go_at_call 36; refine Calls.mono (must_f hs 2 (by decide)) ?_; clear hs; rintro e w ⟨rfl, hs⟩))
 exact ⟨rfl, trivial, HE.out _ hs.drop⟩
theorem man1 {g cc gA gI : Nat} {z : Zs} {a : Addr} {r : Option Nat} (hs : St w0 X (pZ g z (some a) cc :: pL r (some a) cc z :: L) w) (ho : OkZ z) {i : Int} (hI : Cell L gI 0 (.int .i64 i)) (hA : Cell L gA 0 (.int .i64 1)) :
  Calls Try.prog 44 #[.pointer (some ⟨g, 0, none⟩), .pointer (some ⟨gA, 0, none⟩), .pointer (some ⟨gI, 0, none⟩)] w fun e' w' => True ∧ ER w0 X L g cc a r (manageE z i 1) e' w' := by
 obtain ⟨RL, hRL⟩ : ∃ RL, RL = zcl z (some a) cc := ⟨_, rfl⟩
 obtain ⟨k, hk⟩ : ∃ n, n = z.l.length := ⟨_, rfl⟩
 have hk1 : k ≤ 4096 := by rw [hk, ho.1]; exact ho.2.2.1
 have hk0 : 1 ≤ k := by rw [hk, ho.1]; exact ho.2.1
 have R5 := Lib.hid (show RL[5]? = some (.slice (some a) k cc) by rw [hRL, hk]; rfl)
 have e1 : pZ g z (some a) cc = .blk g 71 RL := by rw [hRL]
 have HA : Hid (∀ (M : List At), Cell (M ++ (.blk g 71 RL :: pL r (some a) cc z :: L)) gA 0 (.int .i64 1)) := Lib.hid (fun M => capp M (capp [_, _] hA))
 have BAD : Hid (manageE z i 1 = (z, 2) → ∀ (w : World), St w0 X (.blk g 71 RL :: pL r (some a) cc z :: L) w → ER w0 X L g cc a r (manageE z i 1) (.panicked (chS 2)) w) := Lib.hid (fun he w hs => by
  rw [← e1] at hs
  exact .inr (by rw [he]; exact ⟨(show (2 : Nat) ≠ 0 by decide), rfl, z, hs⟩))
 rw [e1] at hs
 have E1 := Lib.hid e1
 have HK := Lib.hid hk
 have HRL := Lib.hid hRL
 clear hRL hA e1
 have HI : Hid (∀ (M : List At), Cell (M ++ (.blk g 71 RL :: pL r (some a) cc z :: L)) gI 0 (.int .i64 i)) := Lib.hid (fun M => capp M (capp [_, _] hI))
 have w1 : IntKind.i64.wrap ((k : Int) - 1) = (k : Int) - 1 := IntWalk.i64_in _ (by omega)
 clear hI
 by_cases hin : i < 0 ∨ (k : Int) ≤ i
 ·have HE := Lib.hid (BAD.out (by unfold manageE; rw [if_pos (by rw [← hk]; omega)]))
  have HW := Lib.hid (show [i].all (fun x => decide (0 ≤ x ∧ x ≤ (k : Int) - 1)) = false by simp; omega)
  clear BAD hk ho hin
  go_enter Try.func44, Try.ntmps44
  go_upto_region 0 with (fail)
  refine Ch.region' 8 (fun wx => wx.cell? ⟨gA, 0, none⟩ = some (.int .i64 1)) (fun | 0 => true | 2 => true | _ => false) (by kernel_rfl) (by decide +kernel) (HA.out [] _ hs.drew.hold) ?_
  replace hs := hs.drew
  generalize w.drew = w at hs ⊢
  change Ch.CW _ _ _ _ _ [0, 1, 2, 3, 4, 5, 6, 7] _ _
  refine Ch.noise (by rfl) (by rfl) (by rfl) ?_
  refine Se.gcall (f := 45) (args := #[]) ?_ ?_
  ·go_simp
  refine Calls.mono (actions_st hs) ?_
  clear hs
  rintro e w ⟨gm, rfl, hs⟩
  refine ⟨_, rfl, HA.out [_] _ hs.hold, ?_⟩
  (try simp only [Act.put, List.setIfInBounds_toArray, List.set_cons_zero, List.set_cons_succ])
  iterate 1 ((first | (refine Ch.pure (v := ?_) (by rfl) (by rfl) (by rfl) (fun wx hS => ?_) ?_; rotate_left; (focus (go_simp; (first | done | with_reducible rfl)))) | refine Ch.pure (v := _) (by rfl) (by rfl) (by rfl) (fun wx hS => Se.xl rfl rfl hS (by decide +kernel)) ?_); (try simp only [Act.put, List.setIfInBounds_toArray, List.set_cons_zero, List.set_cons_succ]))
  refine Ch.noise (by rfl) (by rfl) (by rfl) (mlk hs rfl rfl rfl List.mem_cons_self Try.underlying95 Try.underlying48 zAct (show _ = some (some (0, Value.func (.func 73) #[] #[])) by rfl) (v := .func (.func 73) #[] #[]) (b := true) rfl rfl ?_)
  refine ⟨HA.out [_] _ hs.hold, ?_⟩
  (try simp only [Act.put, List.setIfInBounds_toArray, List.set_cons_zero, List.set_cons_succ])
  iterate 5 ((first | (refine Ch.pure (v := ?_) (by rfl) (by rfl) (by rfl) (fun wx hS => ?_) ?_; rotate_left; (focus (go_simp; (first | done | with_reducible rfl))))); (try simp only [Act.put, List.setIfInBounds_toArray, List.set_cons_zero, List.set_cons_succ]))
  refine Ch.done ?_
  try simp only [List.drop_succ_cons, List.drop_zero]
  go_upto_region 1 with (fail)
  refine Ch.region' 12 (fun wx => Blk wx g RL 71 ∧ wx.cell? ⟨gI, 0, none⟩ = some (.int .i64 i)) (fun | 9 => true | 10 => true | _ => false) (by kernel_rfl) (by decide +kernel) (⟨hs.drew.hold (.blk g 71 RL) (by simp), HI.out [_] _ hs.drew.hold⟩) ?_
  replace hs := hs.drew
  generalize w.drew = w at hs ⊢
  change Ch.CW _ _ _ _ _ [0, 1, 2, 3, 4, 5, 6, 7, 8, 9, 10, 11] _ _
  iterate 9 ((first | (refine Ch.pure (v := ?_) (by rfl) (by rfl) (by rfl) (fun wx hS => ?_) ?_; rotate_left; (focus (go_simp; (first | done | with_reducible rfl)))) | refine Ch.pure (v := _) (by rfl) (by rfl) (by rfl) (fun wx hS => Se.xl rfl rfl (by rw [hS.1.cell]; exact R5.out) (by decide +kernel)) ?_ | refine Ch.pure (v := _) (by rfl) (by rfl) (by rfl) (fun wx hS => Se.xl rfl rfl hS.2 (by decide +kernel)) ?_); (try simp only [Act.put, List.setIfInBounds_toArray, List.set_cons_zero, List.set_cons_succ]))
  refine Ch.noise (by rfl) (by rfl) (by rfl) (Se.bsv hs rfl Try.underlying106 inti rfl [.int .i64 i] (by rfl) (by rfl) (by decide) (by decide) (by simp [Value.oneCell']) ?_)
  clear hs
  rintro w g21 - hs
  refine ⟨⟨hs.hold (.blk g 71 RL) (by simp), HI.out [_, _] _ hs.hold⟩, ?_⟩
  (try simp only [Act.put, List.setIfInBounds_toArray, List.set_cons_zero, List.set_cons_succ])
  refine Ch.noise (by rfl) (by rfl) (by rfl) ?_
  refine Se.gcall (f := 32) (args := #[.int .i64 0, .int .i64 ((k : Int) - 1), .slice (some ⟨g21, 0, none⟩) 1 1]) ?_ ?_
  ·go_simp
  refine Calls.mono (within_st (n := 1) hs 0 ((k : Int) - 1) (xs := [i]) rfl (Reads.blk 0 rfl) (by decide) HW.out) ?_
  clear hs
  rintro e w ⟨rfl, hs⟩
  refine ⟨_, rfl, ⟨hs.hold (.blk g 71 RL) (by simp), HI.out [_, _] _ hs.hold⟩, ?_⟩
  (try simp only [Act.put, List.setIfInBounds_toArray, List.set_cons_zero, List.set_cons_succ])
  iterate 1 ((first | (refine Ch.pure (v := ?_) (by rfl) (by rfl) (by rfl) (fun wx hS => ?_) ?_; rotate_left; (focus (go_simp; (first | done | with_reducible rfl))))); (try simp only [Act.put, List.setIfInBounds_toArray, List.set_cons_zero, List.set_cons_succ]))
  refine Ch.done ?_
  try simp only [List.drop_succ_cons, List.drop_zero]
  go_wp2_with (first | (go_at_call 36; refine Calls.mono (must_f hs 2 (by decide)) ?_; clear hs; rintro e w ⟨rfl, hs⟩))
  exact ⟨rfl, trivial, HE.out _ hs.drop.drop⟩
 obtain ⟨ii, rfl⟩ : ∃ m : Nat, i = (m : Int) := ⟨i.toNat, by omega⟩
 have hik : ii < k := by omega
 have HW := Lib.hid (show [(ii : Int)].all (fun x => decide (0 ≤ x ∧ x ≤ (k : Int) - 1)) = true by simp; omega)
 have ME : Hid (manageE z (ii : Int) 1 = actE z ii 1) := Lib.hid (by unfold manageE; rw [if_neg (by rw [← hk]; omega)]; rfl)
 have CA : Hid (∀ (w : World), St w0 X (.blk g 71 RL :: pL r (some a) cc z :: L) w → Calls Try.prog 73 #[.pointer (some ⟨g, 0, none⟩), .int .i64 (ii : Int)] w fun e' w' => True ∧ ER w0 X L g cc a r (actE z ii 1) e' w') := Lib.hid (fun w hs => by
  rw [← E1.out] at hs
  exact close_st hs ho (by rw [← hk]; exact hik))
 obtain ⟨q, hq⟩ : ∃ q, q = actE z ii 1 := ⟨_, rfl⟩
 rw [← hq] at ME CA
 clear BAD hk ho hin hik hq
 go_enter Try.func44, Try.ntmps44
 go_upto_region 0 with (fail)
 refine Ch.region' 8 (fun wx => wx.cell? ⟨gA, 0, none⟩ = some (.int .i64 1)) (fun | 0 => true | 2 => true | _ => false) (by kernel_rfl) (by decide +kernel) (HA.out [] _ hs.drew.hold) ?_
 replace hs := hs.drew
 generalize w.drew = w at hs ⊢
 change Ch.CW _ _ _ _ _ [0, 1, 2, 3, 4, 5, 6, 7] _ _
 refine Ch.noise (by rfl) (by rfl) (by rfl) ?_
 refine Se.gcall (f := 45) (args := #[]) ?_ ?_
 ·go_simp
 refine Calls.mono (actions_st hs) ?_
 clear hs
 rintro e w ⟨gm, rfl, hs⟩
 refine ⟨_, rfl, HA.out [_] _ hs.hold, ?_⟩
 (try simp only [Act.put, List.setIfInBounds_toArray, List.set_cons_zero, List.set_cons_succ])
 iterate 1 ((first | (refine Ch.pure (v := ?_) (by rfl) (by rfl) (by rfl) (fun wx hS => ?_) ?_; rotate_left; (focus (go_simp; (first | done | with_reducible rfl)))) | refine Ch.pure (v := _) (by rfl) (by rfl) (by rfl) (fun wx hS => Se.xl rfl rfl hS (by decide +kernel)) ?_); (try simp only [Act.put, List.setIfInBounds_toArray, List.set_cons_zero, List.set_cons_succ]))
 refine Ch.noise (by rfl) (by rfl) (by rfl) (mlk hs rfl rfl rfl List.mem_cons_self Try.underlying95 Try.underlying48 zAct (show _ = some (some (0, Value.func (.func 73) #[] #[])) by rfl) (v := .func (.func 73) #[] #[]) (b := true) rfl rfl ?_)
 refine ⟨HA.out [_] _ hs.hold, ?_⟩
 (try simp only [Act.put, List.setIfInBounds_toArray, List.set_cons_zero, List.set_cons_succ])
 iterate 5 ((first | (refine Ch.pure (v := ?_) (by rfl) (by rfl) (by rfl) (fun wx hS => ?_) ?_; rotate_left; (focus (go_simp; (first | done | with_reducible rfl))))); (try simp only [Act.put, List.setIfInBounds_toArray, List.set_cons_zero, List.set_cons_succ]))
 refine Ch.done ?_
 try simp only [List.drop_succ_cons, List.drop_zero]
 go_upto_region 1 with (fail)
 refine Ch.region' 12 (fun wx => Blk wx g RL 71 ∧ wx.cell? ⟨gI, 0, none⟩ = some (.int .i64 (ii : Int))) (fun | 9 => true | 10 => true | _ => false) (by kernel_rfl) (by decide +kernel) (⟨hs.drew.hold (.blk g 71 RL) (by simp), HI.out [_] _ hs.drew.hold⟩) ?_
 replace hs := hs.drew
 generalize w.drew = w at hs ⊢
 change Ch.CW _ _ _ _ _ [0, 1, 2, 3, 4, 5, 6, 7, 8, 9, 10, 11] _ _
 iterate 9 ((first | (refine Ch.pure (v := ?_) (by rfl) (by rfl) (by rfl) (fun wx hS => ?_) ?_; rotate_left; (focus (go_simp; (first | done | with_reducible rfl)))) | refine Ch.pure (v := _) (by rfl) (by rfl) (by rfl) (fun wx hS => Se.xl rfl rfl (by rw [hS.1.cell]; exact R5.out) (by decide +kernel)) ?_ | refine Ch.pure (v := _) (by rfl) (by rfl) (by rfl) (fun wx hS => Se.xl rfl rfl hS.2 (by decide +kernel)) ?_); (try simp only [Act.put, List.setIfInBounds_toArray, List.set_cons_zero, List.set_cons_succ]))
 refine Ch.noise (by rfl) (by rfl) (by rfl) (Se.bsv hs rfl Try.underlying106 inti rfl [.int .i64 (ii : Int)] (by rfl) (by rfl) (by decide) (by decide) (by simp [Value.oneCell']) ?_)
 clear hs
 rintro w g21 - hs
 refine ⟨⟨hs.hold (.blk g 71 RL) (by simp), HI.out [_, _] _ hs.hold⟩, ?_⟩
 (try simp only [Act.put, List.setIfInBounds_toArray, List.set_cons_zero, List.set_cons_succ])
 refine Ch.noise (by rfl) (by rfl) (by rfl) ?_
 refine Se.gcall (f := 32) (args := #[.int .i64 0, .int .i64 ((k : Int) - 1), .slice (some ⟨g21, 0, none⟩) 1 1]) ?_ ?_
 ·go_simp
 refine Calls.mono (within_st (n := 1) hs 0 ((k : Int) - 1) (xs := [(ii : Int)]) rfl (Reads.blk 0 rfl) (by decide) HW.out) ?_
 clear hs
 rintro e w ⟨rfl, hs⟩
 refine ⟨_, rfl, ⟨hs.hold (.blk g 71 RL) (by simp), HI.out [_, _] _ hs.hold⟩, ?_⟩
 (try simp only [Act.put, List.setIfInBounds_toArray, List.set_cons_zero, List.set_cons_succ])
 iterate 1 ((first | (refine Ch.pure (v := ?_) (by rfl) (by rfl) (by rfl) (fun wx hS => ?_) ?_; rotate_left; (focus (go_simp; (first | done | with_reducible rfl))))); (try simp only [Act.put, List.setIfInBounds_toArray, List.set_cons_zero, List.set_cons_succ]))
 refine Ch.done ?_
 try simp only [List.drop_succ_cons, List.drop_zero]
 go_upto_region 2 with (first | (go_at_call 36; refine Calls.mono (must_t hs 2) ?_; clear hs; rintro e w ⟨rfl, hs⟩))
 replace hs := hs.drop.drop
 by_cases hq0 : q.2 = 0
 ·have CA2 : Hid (∀ (w : World), St w0 X (.blk g 71 RL :: pL r (some a) cc z :: L) w → Calls Try.prog 73 #[.pointer (some ⟨g, 0, none⟩), .int .i64 (ii : Int)] w fun e' w' => e' = .returned (.tuple #[]) ∧ ER w0 X L g cc a r (manageE z (ii : Int) 1) e' w') := Lib.hid (fun w hs => (CA.out w hs).mono (by
   rintro e w ⟨_, h⟩
   rw [ME.out]
   refine ⟨?_, h⟩
   rcases h with ⟨_, h1, _⟩ | ⟨h1, _⟩
   ·exact h1
   ·exact absurd hq0 h1))
  clear CA hq0 ME
  go_wp2_with (first | ((with_reducible refine Se.isL (o := ⟨some 27, _, _, _, _, _⟩) ?_); (refine Se.toL rfl (Se.ld (o := ⟨some 27, _, _, _, _, _⟩) hs rfl rfl (HI.out []) (by kernel_rfl) ?_))) | (go_at_call 73; refine Calls.mono (CA2.out _ hs) ?_; clear hs; rintro e w ⟨rfl, hE⟩))
  go_end0
  first | exact hE | exact ⟨trivial, hE⟩
 ·have CA2 : Hid (∀ (w : World), St w0 X (.blk g 71 RL :: pL r (some a) cc z :: L) w → Calls Try.prog 73 #[.pointer (some ⟨g, 0, none⟩), .int .i64 (ii : Int)] w fun e' w' => e' = .panicked (chS q.2) ∧ ER w0 X L g cc a r (manageE z (ii : Int) 1) (.panicked (chS q.2)) w') := Lib.hid (fun w hs => (CA.out w hs).mono (by
   rintro e w ⟨_, h⟩
   rw [ME.out]
   rcases h with ⟨h1, _⟩ | ⟨h0, h1, h2⟩
   ·exact absurd h1 hq0
   ·exact ⟨h1, .inr ⟨h0, rfl, h2⟩⟩))
  clear CA hq0 ME
  go_wp2_with (first | ((with_reducible refine Se.isL (o := ⟨some 27, _, _, _, _, _⟩) ?_); (refine Se.toL rfl (Se.ld (o := ⟨some 27, _, _, _, _, _⟩) hs rfl rfl (HI.out []) (by kernel_rfl) ?_))) | (go_at_call 73; refine Calls.mono (CA2.out _ hs) ?_; clear hs; rintro e w ⟨rfl, hE⟩))
  exact ⟨rfl, trivial, hE⟩
theorem man2 {g cc gA gI : Nat} {z : Zs} {a : Addr} {r : Option Nat} (hs : St w0 X (pZ g z (some a) cc :: pL r (some a) cc z :: L) w) (ho : OkZ z) {i : Int} (hI : Cell L gI 0 (.int .i64 i)) (hA : Cell L gA 0 (.int .i64 2)) :
  Calls Try.prog 44 #[.pointer (some ⟨g, 0, none⟩), .pointer (some ⟨gA, 0, none⟩), .pointer (some ⟨gI, 0, none⟩)] w fun e' w' => True ∧ ER w0 X L g cc a r (manageE z i 2) e' w' := by
 obtain ⟨RL, hRL⟩ : ∃ RL, RL = zcl z (some a) cc := ⟨_, rfl⟩
 obtain ⟨k, hk⟩ : ∃ n, n = z.l.length := ⟨_, rfl⟩
 have hk1 : k ≤ 4096 := by rw [hk, ho.1]; exact ho.2.2.1
 have hk0 : 1 ≤ k := by rw [hk, ho.1]; exact ho.2.1
 have R5 := Lib.hid (show RL[5]? = some (.slice (some a) k cc) by rw [hRL, hk]; rfl)
 have e1 : pZ g z (some a) cc = .blk g 71 RL := by rw [hRL]
 have HA : Hid (∀ (M : List At), Cell (M ++ (.blk g 71 RL :: pL r (some a) cc z :: L)) gA 0 (.int .i64 2)) := Lib.hid (fun M => capp M (capp [_, _] hA))
 have BAD : Hid (manageE z i 2 = (z, 2) → ∀ (w : World), St w0 X (.blk g 71 RL :: pL r (some a) cc z :: L) w → ER w0 X L g cc a r (manageE z i 2) (.panicked (chS 2)) w) := Lib.hid (fun he w hs => by
  rw [← e1] at hs
  exact .inr (by rw [he]; exact ⟨(show (2 : Nat) ≠ 0 by decide), rfl, z, hs⟩))
 rw [e1] at hs
 have E1 := Lib.hid e1
 have HK := Lib.hid hk
 have HRL := Lib.hid hRL
 clear hRL hA e1
 have HI : Hid (∀ (M : List At), Cell (M ++ (.blk g 71 RL :: pL r (some a) cc z :: L)) gI 0 (.int .i64 i)) := Lib.hid (fun M => capp M (capp [_, _] hI))
 have w1 : IntKind.i64.wrap ((k : Int) - 1) = (k : Int) - 1 := IntWalk.i64_in _ (by omega)
 clear hI
 by_cases hin : i < 0 ∨ (k : Int) ≤ i
 ·have HE := Lib.hid (BAD.out (by unfold manageE; rw [if_pos (by rw [← hk]; omega)]))
  have HW := Lib.hid (show [i].all (fun x => decide (0 ≤ x ∧ x ≤ (k : Int) - 1)) = false by simp; omega)
  clear BAD hk ho hin
  go_enter Try.func44, Try.ntmps44
  go_upto_region 0 with (fail)
  refine Ch.region' 8 (fun wx => wx.cell? ⟨gA, 0, none⟩ = some (.int .i64 2)) (fun | 0 => true | 2 => true | _ => false) (by kernel_rfl) (by decide +kernel) (HA.out [] _ hs.drew.hold) ?_
  replace hs := hs.drew
  generalize w.drew = w at hs ⊢
  change Ch.CW _ _ _ _ _ [0, 1, 2, 3, 4, 5, 6, 7] _ _
  refine Ch.noise (by rfl) (by rfl) (by rfl) ?_
  refine Se.gcall (f := 45) (args := #[]) ?_ ?_
  ·go_simp
  refine Calls.mono (actions_st hs) ?_
  clear hs
  rintro e w ⟨gm, rfl, hs⟩
  refine ⟨_, rfl, HA.out [_] _ hs.hold, ?_⟩
  (try simp only [Act.put, List.setIfInBounds_toArray, List.set_cons_zero, List.set_cons_succ])
  iterate 1 ((first | (refine Ch.pure (v := ?_) (by rfl) (by rfl) (by rfl) (fun wx hS => ?_) ?_; rotate_left; (focus (go_simp; (first | done | with_reducible rfl)))) | refine Ch.pure (v := _) (by rfl) (by rfl) (by rfl) (fun wx hS => Se.xl rfl rfl hS (by decide +kernel)) ?_); (try simp only [Act.put, List.setIfInBounds_toArray, List.set_cons_zero, List.set_cons_succ]))
  refine Ch.noise (by rfl) (by rfl) (by rfl) (mlk hs rfl rfl rfl List.mem_cons_self Try.underlying95 Try.underlying48 zAct (show _ = some (some (1, Value.func (.func 74) #[] #[])) by rfl) (v := .func (.func 74) #[] #[]) (b := true) rfl rfl ?_)
  refine ⟨HA.out [_] _ hs.hold, ?_⟩
  (try simp only [Act.put, List.setIfInBounds_toArray, List.set_cons_zero, List.set_cons_succ])
  iterate 5 ((first | (refine Ch.pure (v := ?_) (by rfl) (by rfl) (by rfl) (fun wx hS => ?_) ?_; rotate_left; (focus (go_simp; (first | done | with_reducible rfl))))); (try simp only [Act.put, List.setIfInBounds_toArray, List.set_cons_zero, List.set_cons_succ]))
  refine Ch.done ?_
  try simp only [List.drop_succ_cons, List.drop_zero]
  go_upto_region 1 with (fail)
  refine Ch.region' 12 (fun wx => Blk wx g RL 71 ∧ wx.cell? ⟨gI, 0, none⟩ = some (.int .i64 i)) (fun | 9 => true | 10 => true | _ => false) (by kernel_rfl) (by decide +kernel) (⟨hs.drew.hold (.blk g 71 RL) (by simp), HI.out [_] _ hs.drew.hold⟩) ?_
  replace hs := hs.drew
  generalize w.drew = w at hs ⊢
  change Ch.CW _ _ _ _ _ [0, 1, 2, 3, 4, 5, 6, 7, 8, 9, 10, 11] _ _
  iterate 9 ((first | (refine Ch.pure (v := ?_) (by rfl) (by rfl) (by rfl) (fun wx hS => ?_) ?_; rotate_left; (focus (go_simp; (first | done | with_reducible rfl)))) | refine Ch.pure (v := _) (by rfl) (by rfl) (by rfl) (fun wx hS => Se.xl rfl rfl (by rw [hS.1.cell]; exact R5.out) (by decide +kernel)) ?_ | refine Ch.pure (v := _) (by rfl) (by rfl) (by rfl) (fun wx hS => Se.xl rfl rfl hS.2 (by decide +kernel)) ?_); (try simp only [Act.put, List.setIfInBounds_toArray, List.set_cons_zero, List.set_cons_succ]))
  refine Ch.noise (by rfl) (by rfl) (by rfl) (Se.bsv hs rfl Try.underlying106 inti rfl [.int .i64 i] (by rfl) (by rfl) (by decide) (by decide) (by simp [Value.oneCell']) ?_)
  clear hs
  rintro w g21 - hs
  refine ⟨⟨hs.hold (.blk g 71 RL) (by simp), HI.out [_, _] _ hs.hold⟩, ?_⟩
  (try simp only [Act.put, List.setIfInBounds_toArray, List.set_cons_zero, List.set_cons_succ])
  refine Ch.noise (by rfl) (by rfl) (by rfl) ?_
  refine Se.gcall (f := 32) (args := #[.int .i64 0, .int .i64 ((k : Int) - 1), .slice (some ⟨g21, 0, none⟩) 1 1]) ?_ ?_
  ·go_simp
  refine Calls.mono (within_st (n := 1) hs 0 ((k : Int) - 1) (xs := [i]) rfl (Reads.blk 0 rfl) (by decide) HW.out) ?_
  clear hs
  rintro e w ⟨rfl, hs⟩
  refine ⟨_, rfl, ⟨hs.hold (.blk g 71 RL) (by simp), HI.out [_, _] _ hs.hold⟩, ?_⟩
  (try simp only [Act.put, List.setIfInBounds_toArray, List.set_cons_zero, List.set_cons_succ])
  iterate 1 ((first | (refine Ch.pure (v := ?_) (by rfl) (by rfl) (by rfl) (fun wx hS => ?_) ?_; rotate_left; (focus (go_simp; (first | done | with_reducible rfl))))); (try simp only [Act.put, List.setIfInBounds_toArray, List.set_cons_zero, List.set_cons_succ]))
  refine Ch.done ?_
  try simp only [List.drop_succ_cons, List.drop_zero]
  go_wp2_with (first | (go_at_call 36; refine Calls.mono (must_f hs 2 (by decide)) ?_; clear hs; rintro e w ⟨rfl, hs⟩))
  exact ⟨rfl, trivial, HE.out _ hs.drop.drop⟩
 obtain ⟨ii, rfl⟩ : ∃ m : Nat, i = (m : Int) := ⟨i.toNat, by omega⟩
 have hik : ii < k := by omega
 have HW := Lib.hid (show [(ii : Int)].all (fun x => decide (0 ≤ x ∧ x ≤ (k : Int) - 1)) = true by simp; omega)
 have ME : Hid (manageE z (ii : Int) 2 = actE z ii 2) := Lib.hid (by unfold manageE; rw [if_neg (by rw [← hk]; omega)]; rfl)
 have CA : Hid (∀ (w : World), St w0 X (.blk g 71 RL :: pL r (some a) cc z :: L) w → Calls Try.prog 74 #[.pointer (some ⟨g, 0, none⟩), .int .i64 (ii : Int)] w fun e' w' => True ∧ ER w0 X L g cc a r (actE z ii 2) e' w') := Lib.hid (fun w hs => by
  rw [← E1.out] at hs
  exact finish_st hs ho (by rw [← hk]; exact hik))
 obtain ⟨q, hq⟩ : ∃ q, q = actE z ii 2 := ⟨_, rfl⟩
 rw [← hq] at ME CA
 clear BAD hk ho hin hik hq
 go_enter Try.func44, Try.ntmps44
 go_upto_region 0 with (fail)
 refine Ch.region' 8 (fun wx => wx.cell? ⟨gA, 0, none⟩ = some (.int .i64 2)) (fun | 0 => true | 2 => true | _ => false) (by kernel_rfl) (by decide +kernel) (HA.out [] _ hs.drew.hold) ?_
 replace hs := hs.drew
 generalize w.drew = w at hs ⊢
 change Ch.CW _ _ _ _ _ [0, 1, 2, 3, 4, 5, 6, 7] _ _
 refine Ch.noise (by rfl) (by rfl) (by rfl) ?_
 refine Se.gcall (f := 45) (args := #[]) ?_ ?_
 ·go_simp
 refine Calls.mono (actions_st hs) ?_
 clear hs
 rintro e w ⟨gm, rfl, hs⟩
 refine ⟨_, rfl, HA.out [_] _ hs.hold, ?_⟩
 (try simp only [Act.put, List.setIfInBounds_toArray, List.set_cons_zero, List.set_cons_succ])
 iterate 1 ((first | (refine Ch.pure (v := ?_) (by rfl) (by rfl) (by rfl) (fun wx hS => ?_) ?_; rotate_left; (focus (go_simp; (first | done | with_reducible rfl)))) | refine Ch.pure (v := _) (by rfl) (by rfl) (by rfl) (fun wx hS => Se.xl rfl rfl hS (by decide +kernel)) ?_); (try simp only [Act.put, List.setIfInBounds_toArray, List.set_cons_zero, List.set_cons_succ]))
 refine Ch.noise (by rfl) (by rfl) (by rfl) (mlk hs rfl rfl rfl List.mem_cons_self Try.underlying95 Try.underlying48 zAct (show _ = some (some (1, Value.func (.func 74) #[] #[])) by rfl) (v := .func (.func 74) #[] #[]) (b := true) rfl rfl ?_)
 refine ⟨HA.out [_] _ hs.hold, ?_⟩
 (try simp only [Act.put, List.setIfInBounds_toArray, List.set_cons_zero, List.set_cons_succ])
 iterate 5 ((first | (refine Ch.pure (v := ?_) (by rfl) (by rfl) (by rfl) (fun wx hS => ?_) ?_; rotate_left; (focus (go_simp; (first | done | with_reducible rfl))))); (try simp only [Act.put, List.setIfInBounds_toArray, List.set_cons_zero, List.set_cons_succ]))
 refine Ch.done ?_
 try simp only [List.drop_succ_cons, List.drop_zero]
 go_upto_region 1 with (fail)
 refine Ch.region' 12 (fun wx => Blk wx g RL 71 ∧ wx.cell? ⟨gI, 0, none⟩ = some (.int .i64 (ii : Int))) (fun | 9 => true | 10 => true | _ => false) (by kernel_rfl) (by decide +kernel) (⟨hs.drew.hold (.blk g 71 RL) (by simp), HI.out [_] _ hs.drew.hold⟩) ?_
 replace hs := hs.drew
 generalize w.drew = w at hs ⊢
 change Ch.CW _ _ _ _ _ [0, 1, 2, 3, 4, 5, 6, 7, 8, 9, 10, 11] _ _
 iterate 9 ((first | (refine Ch.pure (v := ?_) (by rfl) (by rfl) (by rfl) (fun wx hS => ?_) ?_; rotate_left; (focus (go_simp; (first | done | with_reducible rfl)))) | refine Ch.pure (v := _) (by rfl) (by rfl) (by rfl) (fun wx hS => Se.xl rfl rfl (by rw [hS.1.cell]; exact R5.out) (by decide +kernel)) ?_ | refine Ch.pure (v := _) (by rfl) (by rfl) (by rfl) (fun wx hS => Se.xl rfl rfl hS.2 (by decide +kernel)) ?_); (try simp only [Act.put, List.setIfInBounds_toArray, List.set_cons_zero, List.set_cons_succ]))
 refine Ch.noise (by rfl) (by rfl) (by rfl) (Se.bsv hs rfl Try.underlying106 inti rfl [.int .i64 (ii : Int)] (by rfl) (by rfl) (by decide) (by decide) (by simp [Value.oneCell']) ?_)
 clear hs
 rintro w g21 - hs
 refine ⟨⟨hs.hold (.blk g 71 RL) (by simp), HI.out [_, _] _ hs.hold⟩, ?_⟩
 (try simp only [Act.put, List.setIfInBounds_toArray, List.set_cons_zero, List.set_cons_succ])
 refine Ch.noise (by rfl) (by rfl) (by rfl) ?_
 refine Se.gcall (f := 32) (args := #[.int .i64 0, .int .i64 ((k : Int) - 1), .slice (some ⟨g21, 0, none⟩) 1 1]) ?_ ?_
 ·go_simp
 refine Calls.mono (within_st (n := 1) hs 0 ((k : Int) - 1) (xs := [(ii : Int)]) rfl (Reads.blk 0 rfl) (by decide) HW.out) ?_
 clear hs
 rintro e w ⟨rfl, hs⟩
 refine ⟨_, rfl, ⟨hs.hold (.blk g 71 RL) (by simp), HI.out [_, _] _ hs.hold⟩, ?_⟩
 (try simp only [Act.put, List.setIfInBounds_toArray, List.set_cons_zero, List.set_cons_succ])
 iterate 1 ((first | (refine Ch.pure (v := ?_) (by rfl) (by rfl) (by rfl) (fun wx hS => ?_) ?_; rotate_left; (focus (go_simp; (first | done | with_reducible rfl))))); (try simp only [Act.put, List.setIfInBounds_toArray, List.set_cons_zero, List.set_cons_succ]))
 refine Ch.done ?_
 try simp only [List.drop_succ_cons, List.drop_zero]
 go_upto_region 2 with (first | (go_at_call 36; refine Calls.mono (must_t hs 2) ?_; clear hs; rintro e w ⟨rfl, hs⟩))
 replace hs := hs.drop.drop
 by_cases hq0 : q.2 = 0
 ·have CA2 : Hid (∀ (w : World), St w0 X (.blk g 71 RL :: pL r (some a) cc z :: L) w → Calls Try.prog 74 #[.pointer (some ⟨g, 0, none⟩), .int .i64 (ii : Int)] w fun e' w' => e' = .returned (.tuple #[]) ∧ ER w0 X L g cc a r (manageE z (ii : Int) 2) e' w') := Lib.hid (fun w hs => (CA.out w hs).mono (by
   rintro e w ⟨_, h⟩
   rw [ME.out]
   refine ⟨?_, h⟩
   rcases h with ⟨_, h1, _⟩ | ⟨h1, _⟩
   ·exact h1
   ·exact absurd hq0 h1))
  clear CA hq0 ME
  go_wp2_with (first | ((with_reducible refine Se.isL (o := ⟨some 27, _, _, _, _, _⟩) ?_); (refine Se.toL rfl (Se.ld (o := ⟨some 27, _, _, _, _, _⟩) hs rfl rfl (HI.out []) (by kernel_rfl) ?_))) | (go_at_call 74; refine Calls.mono (CA2.out _ hs) ?_; clear hs; rintro e w ⟨rfl, hE⟩))
  go_end0
  first | exact hE | exact ⟨trivial, hE⟩
 ·have CA2 : Hid (∀ (w : World), St w0 X (.blk g 71 RL :: pL r (some a) cc z :: L) w → Calls Try.prog 74 #[.pointer (some ⟨g, 0, none⟩), .int .i64 (ii : Int)] w fun e' w' => e' = .panicked (chS q.2) ∧ ER w0 X L g cc a r (manageE z (ii : Int) 2) (.panicked (chS q.2)) w') := Lib.hid (fun w hs => (CA.out w hs).mono (by
   rintro e w ⟨_, h⟩
   rw [ME.out]
   rcases h with ⟨h1, _⟩ | ⟨h0, h1, h2⟩
   ·exact absurd h1 hq0
   ·exact ⟨h1, .inr ⟨h0, rfl, h2⟩⟩))
  clear CA hq0 ME
  go_wp2_with (first | ((with_reducible refine Se.isL (o := ⟨some 27, _, _, _, _, _⟩) ?_); (refine Se.toL rfl (Se.ld (o := ⟨some 27, _, _, _, _, _⟩) hs rfl rfl (HI.out []) (by kernel_rfl) ?_))) | (go_at_call 74; refine Calls.mono (CA2.out _ hs) ?_; clear hs; rintro e w ⟨rfl, hE⟩))
  exact ⟨rfl, trivial, hE⟩
theorem man3 {g cc gA gI : Nat} {z : Zs} {a : Addr} {r : Option Nat} (hs : St w0 X (pZ g z (some a) cc :: pL r (some a) cc z :: L) w) (ho : OkZ z) {i : Int} (hI : Cell L gI 0 (.int .i64 i)) (hA : Cell L gA 0 (.int .i64 3)) :
  Calls Try.prog 44 #[.pointer (some ⟨g, 0, none⟩), .pointer (some ⟨gA, 0, none⟩), .pointer (some ⟨gI, 0, none⟩)] w fun e' w' => True ∧ ER w0 X L g cc a r (manageE z i 3) e' w' := by
 obtain ⟨RL, hRL⟩ : ∃ RL, RL = zcl z (some a) cc := ⟨_, rfl⟩
 obtain ⟨k, hk⟩ : ∃ n, n = z.l.length := ⟨_, rfl⟩
 have hk1 : k ≤ 4096 := by rw [hk, ho.1]; exact ho.2.2.1
 have hk0 : 1 ≤ k := by rw [hk, ho.1]; exact ho.2.1
 have R5 := Lib.hid (show RL[5]? = some (.slice (some a) k cc) by rw [hRL, hk]; rfl)
 have e1 : pZ g z (some a) cc = .blk g 71 RL := by rw [hRL]
 have HA : Hid (∀ (M : List At), Cell (M ++ (.blk g 71 RL :: pL r (some a) cc z :: L)) gA 0 (.int .i64 3)) := Lib.hid (fun M => capp M (capp [_, _] hA))
 have BAD : Hid (manageE z i 3 = (z, 2) → ∀ (w : World), St w0 X (.blk g 71 RL :: pL r (some a) cc z :: L) w → ER w0 X L g cc a r (manageE z i 3) (.panicked (chS 2)) w) := Lib.hid (fun he w hs => by
  rw [← e1] at hs
  exact .inr (by rw [he]; exact ⟨(show (2 : Nat) ≠ 0 by decide), rfl, z, hs⟩))
 rw [e1] at hs
 have E1 := Lib.hid e1
 have HK := Lib.hid hk
 have HRL := Lib.hid hRL
 clear hRL hA e1
 have HI : Hid (∀ (M : List At), Cell (M ++ (.blk g 71 RL :: pL r (some a) cc z :: L)) gI 0 (.int .i64 i)) := Lib.hid (fun M => capp M (capp [_, _] hI))
 have w1 : IntKind.i64.wrap ((k : Int) - 1) = (k : Int) - 1 := IntWalk.i64_in _ (by omega)
 clear hI
 by_cases hin : i < 0 ∨ (k : Int) ≤ i
 ·have HE := Lib.hid (BAD.out (by unfold manageE; rw [if_pos (by rw [← hk]; omega)]))
  have HW := Lib.hid (show [i].all (fun x => decide (0 ≤ x ∧ x ≤ (k : Int) - 1)) = false by simp; omega)
  clear BAD hk ho hin
  go_enter Try.func44, Try.ntmps44
  go_upto_region 0 with (fail)
  refine Ch.region' 8 (fun wx => wx.cell? ⟨gA, 0, none⟩ = some (.int .i64 3)) (fun | 0 => true | 2 => true | _ => false) (by kernel_rfl) (by decide +kernel) (HA.out [] _ hs.drew.hold) ?_
  replace hs := hs.drew
  generalize w.drew = w at hs ⊢
  change Ch.CW _ _ _ _ _ [0, 1, 2, 3, 4, 5, 6, 7] _ _
  refine Ch.noise (by rfl) (by rfl) (by rfl) ?_
  refine Se.gcall (f := 45) (args := #[]) ?_ ?_
  ·go_simp
  refine Calls.mono (actions_st hs) ?_
  clear hs
  rintro e w ⟨gm, rfl, hs⟩
  refine ⟨_, rfl, HA.out [_] _ hs.hold, ?_⟩
  (try simp only [Act.put, List.setIfInBounds_toArray, List.set_cons_zero, List.set_cons_succ])
  iterate 1 ((first | (refine Ch.pure (v := ?_) (by rfl) (by rfl) (by rfl) (fun wx hS => ?_) ?_; rotate_left; (focus (go_simp; (first | done | with_reducible rfl)))) | refine Ch.pure (v := _) (by rfl) (by rfl) (by rfl) (fun wx hS => Se.xl rfl rfl hS (by decide +kernel)) ?_); (try simp only [Act.put, List.setIfInBounds_toArray, List.set_cons_zero, List.set_cons_succ]))
  refine Ch.noise (by rfl) (by rfl) (by rfl) (mlk hs rfl rfl rfl List.mem_cons_self Try.underlying95 Try.underlying48 zAct (show _ = some (some (2, Value.func (.func 75) #[] #[])) by rfl) (v := .func (.func 75) #[] #[]) (b := true) rfl rfl ?_)
  refine ⟨HA.out [_] _ hs.hold, ?_⟩
  (try simp only [Act.put, List.setIfInBounds_toArray, List.set_cons_zero, List.set_cons_succ])
  iterate 5 ((first | (refine Ch.pure (v := ?_) (by rfl) (by rfl) (by rfl) (fun wx hS => ?_) ?_; rotate_left; (focus (go_simp; (first | done | with_reducible rfl))))); (try simp only [Act.put, List.setIfInBounds_toArray, List.set_cons_zero, List.set_cons_succ]))
  refine Ch.done ?_
  try simp only [List.drop_succ_cons, List.drop_zero]
  go_upto_region 1 with (fail)
  refine Ch.region' 12 (fun wx => Blk wx g RL 71 ∧ wx.cell? ⟨gI, 0, none⟩ = some (.int .i64 i)) (fun | 9 => true | 10 => true | _ => false) (by kernel_rfl) (by decide +kernel) (⟨hs.drew.hold (.blk g 71 RL) (by simp), HI.out [_] _ hs.drew.hold⟩) ?_
  replace hs := hs.drew
  generalize w.drew = w at hs ⊢
  change Ch.CW _ _ _ _ _ [0, 1, 2, 3, 4, 5, 6, 7, 8, 9, 10, 11] _ _
  iterate 9 ((first | (refine Ch.pure (v := ?_) (by rfl) (by rfl) (by rfl) (fun wx hS => ?_) ?_; rotate_left; (focus (go_simp; (first | done | with_reducible rfl)))) | refine Ch.pure (v := _) (by rfl) (by rfl) (by rfl) (fun wx hS => Se.xl rfl rfl (by rw [hS.1.cell]; exact R5.out) (by decide +kernel)) ?_ | refine Ch.pure (v := _) (by rfl) (by rfl) (by rfl) (fun wx hS => Se.xl rfl rfl hS.2 (by decide +kernel)) ?_); (try simp only [Act.put, List.setIfInBounds_toArray, List.set_cons_zero, List.set_cons_succ]))
  refine Ch.noise (by rfl) (by rfl) (by rfl) (Se.bsv hs rfl Try.underlying106 inti rfl [.int .i64 i] (by rfl) (by rfl) (by decide) (by decide) (by simp [Value.oneCell']) ?_)
  clear hs
  rintro w g21 - hs
  refine ⟨⟨hs.hold (.blk g 71 RL) (by simp), HI.out [_, _] _ hs.hold⟩, ?_⟩
  (try simp only [Act.put, List.setIfInBounds_toArray, List.set_cons_zero, List.set_cons_succ])
  refine Ch.noise (by rfl) (by rfl) (by rfl) ?_
  refine Se.gcall (f := 32) (args := #[.int .i64 0, .int .i64 ((k : Int) - 1), .slice (some ⟨g21, 0, none⟩) 1 1]) ?_ ?_
  ·go_simp
  refine Calls.mono (within_st (n := 1) hs 0 ((k : Int) - 1) (xs := [i]) rfl (Reads.blk 0 rfl) (by decide) HW.out) ?_
  clear hs
  rintro e w ⟨rfl, hs⟩
  refine ⟨_, rfl, ⟨hs.hold (.blk g 71 RL) (by simp), HI.out [_, _] _ hs.hold⟩, ?_⟩
  (try simp only [Act.put, List.setIfInBounds_toArray, List.set_cons_zero, List.set_cons_succ])
  iterate 1 ((first | (refine Ch.pure (v := ?_) (by rfl) (by rfl) (by rfl) (fun wx hS => ?_) ?_; rotate_left; (focus (go_simp; (first | done | with_reducible rfl))))); (try simp only [Act.put, List.setIfInBounds_toArray, List.set_cons_zero, List.set_cons_succ]))
  refine Ch.done ?_
  try simp only [List.drop_succ_cons, List.drop_zero]
  go_wp2_with (first | (go_at_call 36; refine Calls.mono (must_f hs 2 (by decide)) ?_; clear hs; rintro e w ⟨rfl, hs⟩))
  exact ⟨rfl, trivial, HE.out _ hs.drop.drop⟩
 obtain ⟨ii, rfl⟩ : ∃ m : Nat, i = (m : Int) := ⟨i.toNat, by omega⟩
 have hik : ii < k := by omega
 have HW := Lib.hid (show [(ii : Int)].all (fun x => decide (0 ≤ x ∧ x ≤ (k : Int) - 1)) = true by simp; omega)
 have ME : Hid (manageE z (ii : Int) 3 = actE z ii 3) := Lib.hid (by unfold manageE; rw [if_neg (by rw [← hk]; omega)]; rfl)
 have CA : Hid (∀ (w : World), St w0 X (.blk g 71 RL :: pL r (some a) cc z :: L) w → Calls Try.prog 75 #[.pointer (some ⟨g, 0, none⟩), .int .i64 (ii : Int)] w fun e' w' => True ∧ ER w0 X L g cc a r (actE z ii 3) e' w') := Lib.hid (fun w hs => by
  rw [← E1.out] at hs
  exact explicit_st hs ho (by rw [← hk]; exact hik))
 obtain ⟨q, hq⟩ : ∃ q, q = actE z ii 3 := ⟨_, rfl⟩
 rw [← hq] at ME CA
 clear BAD hk ho hin hik hq
 go_enter Try.func44, Try.ntmps44
 go_upto_region 0 with (fail)
 refine Ch.region' 8 (fun wx => wx.cell? ⟨gA, 0, none⟩ = some (.int .i64 3)) (fun | 0 => true | 2 => true | _ => false) (by kernel_rfl) (by decide +kernel) (HA.out [] _ hs.drew.hold) ?_
 replace hs := hs.drew
 generalize w.drew = w at hs ⊢
 change Ch.CW _ _ _ _ _ [0, 1, 2, 3, 4, 5, 6, 7] _ _
 refine Ch.noise (by rfl) (by rfl) (by rfl) ?_
 refine Se.gcall (f := 45) (args := #[]) ?_ ?_
 ·go_simp
 refine Calls.mono (actions_st hs) ?_
 clear hs
 rintro e w ⟨gm, rfl, hs⟩
 refine ⟨_, rfl, HA.out [_] _ hs.hold, ?_⟩
 (try simp only [Act.put, List.setIfInBounds_toArray, List.set_cons_zero, List.set_cons_succ])
 iterate 1 ((first | (refine Ch.pure (v := ?_) (by rfl) (by rfl) (by rfl) (fun wx hS => ?_) ?_; rotate_left; (focus (go_simp; (first | done | with_reducible rfl)))) | refine Ch.pure (v := _) (by rfl) (by rfl) (by rfl) (fun wx hS => Se.xl rfl rfl hS (by decide +kernel)) ?_); (try simp only [Act.put, List.setIfInBounds_toArray, List.set_cons_zero, List.set_cons_succ]))
 refine Ch.noise (by rfl) (by rfl) (by rfl) (mlk hs rfl rfl rfl List.mem_cons_self Try.underlying95 Try.underlying48 zAct (show _ = some (some (2, Value.func (.func 75) #[] #[])) by rfl) (v := .func (.func 75) #[] #[]) (b := true) rfl rfl ?_)
 refine ⟨HA.out [_] _ hs.hold, ?_⟩
 (try simp only [Act.put, List.setIfInBounds_toArray, List.set_cons_zero, List.set_cons_succ])
 iterate 5 ((first | (refine Ch.pure (v := ?_) (by rfl) (by rfl) (by rfl) (fun wx hS => ?_) ?_; rotate_left; (focus (go_simp; (first | done | with_reducible rfl))))); (try simp only [Act.put, List.setIfInBounds_toArray, List.set_cons_zero, List.set_cons_succ]))
 refine Ch.done ?_
 try simp only [List.drop_succ_cons, List.drop_zero]
 go_upto_region 1 with (fail)
 refine Ch.region' 12 (fun wx => Blk wx g RL 71 ∧ wx.cell? ⟨gI, 0, none⟩ = some (.int .i64 (ii : Int))) (fun | 9 => true | 10 => true | _ => false) (by kernel_rfl) (by decide +kernel) (⟨hs.drew.hold (.blk g 71 RL) (by simp), HI.out [_] _ hs.drew.hold⟩) ?_
 replace hs := hs.drew
 generalize w.drew = w at hs ⊢
 change Ch.CW _ _ _ _ _ [0, 1, 2, 3, 4, 5, 6, 7, 8, 9, 10, 11] _ _
 iterate 9 ((first | (refine Ch.pure (v := ?_) (by rfl) (by rfl) (by rfl) (fun wx hS => ?_) ?_; rotate_left; (focus (go_simp; (first | done | with_reducible rfl)))) | refine Ch.pure (v := _) (by rfl) (by rfl) (by rfl) (fun wx hS => Se.xl rfl rfl (by rw [hS.1.cell]; exact R5.out) (by decide +kernel)) ?_ | refine Ch.pure (v := _) (by rfl) (by rfl) (by rfl) (fun wx hS => Se.xl rfl rfl hS.2 (by decide +kernel)) ?_); (try simp only [Act.put, List.setIfInBounds_toArray, List.set_cons_zero, List.set_cons_succ]))
 refine Ch.noise (by rfl) (by rfl) (by rfl) (Se.bsv hs rfl Try.underlying106 inti rfl [.int .i64 (ii : Int)] (by rfl) (by rfl) (by decide) (by decide) (by simp [Value.oneCell']) ?_)
 clear hs
 rintro w g21 - hs
 refine ⟨⟨hs.hold (.blk g 71 RL) (by simp), HI.out [_, _] _ hs.hold⟩, ?_⟩
 (try simp only [Act.put, List.setIfInBounds_toArray, List.set_cons_zero, List.set_cons_succ])
 refine Ch.noise (by rfl) (by rfl) (by rfl) ?_
 refine Se.gcall (f := 32) (args := #[.int .i64 0, .int .i64 ((k : Int) - 1), .slice (some ⟨g21, 0, none⟩) 1 1]) ?_ ?_
 ·go_simp
 refine Calls.mono (within_st (n := 1) hs 0 ((k : Int) - 1) (xs := [(ii : Int)]) rfl (Reads.blk 0 rfl) (by decide) HW.out) ?_
 clear hs
 rintro e w ⟨rfl, hs⟩
 refine ⟨_, rfl, ⟨hs.hold (.blk g 71 RL) (by simp), HI.out [_, _] _ hs.hold⟩, ?_⟩
 (try simp only [Act.put, List.setIfInBounds_toArray, List.set_cons_zero, List.set_cons_succ])
 iterate 1 ((first | (refine Ch.pure (v := ?_) (by rfl) (by rfl) (by rfl) (fun wx hS => ?_) ?_; rotate_left; (focus (go_simp; (first | done | with_reducible rfl))))); (try simp only [Act.put, List.setIfInBounds_toArray, List.set_cons_zero, List.set_cons_succ]))
 refine Ch.done ?_
 try simp only [List.drop_succ_cons, List.drop_zero]
 go_upto_region 2 with (first | (go_at_call 36; refine Calls.mono (must_t hs 2) ?_; clear hs; rintro e w ⟨rfl, hs⟩))
 replace hs := hs.drop.drop
 by_cases hq0 : q.2 = 0
 ·have CA2 : Hid (∀ (w : World), St w0 X (.blk g 71 RL :: pL r (some a) cc z :: L) w → Calls Try.prog 75 #[.pointer (some ⟨g, 0, none⟩), .int .i64 (ii : Int)] w fun e' w' => e' = .returned (.tuple #[]) ∧ ER w0 X L g cc a r (manageE z (ii : Int) 3) e' w') := Lib.hid (fun w hs => (CA.out w hs).mono (by
   rintro e w ⟨_, h⟩
   rw [ME.out]
   refine ⟨?_, h⟩
   rcases h with ⟨_, h1, _⟩ | ⟨h1, _⟩
   ·exact h1
   ·exact absurd hq0 h1))
  clear CA hq0 ME
  go_wp2_with (first | ((with_reducible refine Se.isL (o := ⟨some 27, _, _, _, _, _⟩) ?_); (refine Se.toL rfl (Se.ld (o := ⟨some 27, _, _, _, _, _⟩) hs rfl rfl (HI.out []) (by kernel_rfl) ?_))) | (go_at_call 75; refine Calls.mono (CA2.out _ hs) ?_; clear hs; rintro e w ⟨rfl, hE⟩))
  go_end0
  first | exact hE | exact ⟨trivial, hE⟩
 ·have CA2 : Hid (∀ (w : World), St w0 X (.blk g 71 RL :: pL r (some a) cc z :: L) w → Calls Try.prog 75 #[.pointer (some ⟨g, 0, none⟩), .int .i64 (ii : Int)] w fun e' w' => e' = .panicked (chS q.2) ∧ ER w0 X L g cc a r (manageE z (ii : Int) 3) (.panicked (chS q.2)) w') := Lib.hid (fun w hs => (CA.out w hs).mono (by
   rintro e w ⟨_, h⟩
   rw [ME.out]
   rcases h with ⟨h1, _⟩ | ⟨h0, h1, h2⟩
   ·exact absurd h1 hq0
   ·exact ⟨h1, .inr ⟨h0, rfl, h2⟩⟩))
  clear CA hq0 ME
  go_wp2_with (first | ((with_reducible refine Se.isL (o := ⟨some 27, _, _, _, _, _⟩) ?_); (refine Se.toL rfl (Se.ld (o := ⟨some 27, _, _, _, _, _⟩) hs rfl rfl (HI.out []) (by kernel_rfl) ?_))) | (go_at_call 75; refine Calls.mono (CA2.out _ hs) ?_; clear hs; rintro e w ⟨rfl, hE⟩))
  exact ⟨rfl, trivial, hE⟩
theorem man4 {g cc gA gI : Nat} {z : Zs} {a : Addr} {r : Option Nat} (hs : St w0 X (pZ g z (some a) cc :: pL r (some a) cc z :: L) w) (ho : OkZ z) {i : Int} (hI : Cell L gI 0 (.int .i64 i)) (hA : Cell L gA 0 (.int .i64 4)) :
  Calls Try.prog 44 #[.pointer (some ⟨g, 0, none⟩), .pointer (some ⟨gA, 0, none⟩), .pointer (some ⟨gI, 0, none⟩)] w fun e' w' => True ∧ ER w0 X L g cc a r (manageE z i 4) e' w' := by
 obtain ⟨RL, hRL⟩ : ∃ RL, RL = zcl z (some a) cc := ⟨_, rfl⟩
 obtain ⟨k, hk⟩ : ∃ n, n = z.l.length := ⟨_, rfl⟩
 have hk1 : k ≤ 4096 := by rw [hk, ho.1]; exact ho.2.2.1
 have hk0 : 1 ≤ k := by rw [hk, ho.1]; exact ho.2.1
 have R5 := Lib.hid (show RL[5]? = some (.slice (some a) k cc) by rw [hRL, hk]; rfl)
 have e1 : pZ g z (some a) cc = .blk g 71 RL := by rw [hRL]
 have HA : Hid (∀ (M : List At), Cell (M ++ (.blk g 71 RL :: pL r (some a) cc z :: L)) gA 0 (.int .i64 4)) := Lib.hid (fun M => capp M (capp [_, _] hA))
 have BAD : Hid (manageE z i 4 = (z, 2) → ∀ (w : World), St w0 X (.blk g 71 RL :: pL r (some a) cc z :: L) w → ER w0 X L g cc a r (manageE z i 4) (.panicked (chS 2)) w) := Lib.hid (fun he w hs => by
  rw [← e1] at hs
  exact .inr (by rw [he]; exact ⟨(show (2 : Nat) ≠ 0 by decide), rfl, z, hs⟩))
 rw [e1] at hs
 have E1 := Lib.hid e1
 have HK := Lib.hid hk
 have HRL := Lib.hid hRL
 clear hRL hA e1
 have HI : Hid (∀ (M : List At), Cell (M ++ (.blk g 71 RL :: pL r (some a) cc z :: L)) gI 0 (.int .i64 i)) := Lib.hid (fun M => capp M (capp [_, _] hI))
 have w1 : IntKind.i64.wrap ((k : Int) - 1) = (k : Int) - 1 := IntWalk.i64_in _ (by omega)
 clear hI
 by_cases hin : i < 0 ∨ (k : Int) ≤ i
 ·have HE := Lib.hid (BAD.out (by unfold manageE; rw [if_pos (by rw [← hk]; omega)]))
  have HW := Lib.hid (show [i].all (fun x => decide (0 ≤ x ∧ x ≤ (k : Int) - 1)) = false by simp; omega)
  clear BAD hk ho hin
  go_enter Try.func44, Try.ntmps44
  go_upto_region 0 with (fail)
  refine Ch.region' 8 (fun wx => wx.cell? ⟨gA, 0, none⟩ = some (.int .i64 4)) (fun | 0 => true | 2 => true | _ => false) (by kernel_rfl) (by decide +kernel) (HA.out [] _ hs.drew.hold) ?_
  replace hs := hs.drew
  generalize w.drew = w at hs ⊢
  change Ch.CW _ _ _ _ _ [0, 1, 2, 3, 4, 5, 6, 7] _ _
  refine Ch.noise (by rfl) (by rfl) (by rfl) ?_
  refine Se.gcall (f := 45) (args := #[]) ?_ ?_
  ·go_simp
  refine Calls.mono (actions_st hs) ?_
  clear hs
  rintro e w ⟨gm, rfl, hs⟩
  refine ⟨_, rfl, HA.out [_] _ hs.hold, ?_⟩
  (try simp only [Act.put, List.setIfInBounds_toArray, List.set_cons_zero, List.set_cons_succ])
  iterate 1 ((first | (refine Ch.pure (v := ?_) (by rfl) (by rfl) (by rfl) (fun wx hS => ?_) ?_; rotate_left; (focus (go_simp; (first | done | with_reducible rfl)))) | refine Ch.pure (v := _) (by rfl) (by rfl) (by rfl) (fun wx hS => Se.xl rfl rfl hS (by decide +kernel)) ?_); (try simp only [Act.put, List.setIfInBounds_toArray, List.set_cons_zero, List.set_cons_succ]))
  refine Ch.noise (by rfl) (by rfl) (by rfl) (mlk hs rfl rfl rfl List.mem_cons_self Try.underlying95 Try.underlying48 zAct (show _ = some (some (3, Value.func (.func 76) #[] #[])) by rfl) (v := .func (.func 76) #[] #[]) (b := true) rfl rfl ?_)
  refine ⟨HA.out [_] _ hs.hold, ?_⟩
  (try simp only [Act.put, List.setIfInBounds_toArray, List.set_cons_zero, List.set_cons_succ])
  iterate 5 ((first | (refine Ch.pure (v := ?_) (by rfl) (by rfl) (by rfl) (fun wx hS => ?_) ?_; rotate_left; (focus (go_simp; (first | done | with_reducible rfl))))); (try simp only [Act.put, List.setIfInBounds_toArray, List.set_cons_zero, List.set_cons_succ]))
  refine Ch.done ?_
  try simp only [List.drop_succ_cons, List.drop_zero]
  go_upto_region 1 with (fail)
  refine Ch.region' 12 (fun wx => Blk wx g RL 71 ∧ wx.cell? ⟨gI, 0, none⟩ = some (.int .i64 i)) (fun | 9 => true | 10 => true | _ => false) (by kernel_rfl) (by decide +kernel) (⟨hs.drew.hold (.blk g 71 RL) (by simp), HI.out [_] _ hs.drew.hold⟩) ?_
  replace hs := hs.drew
  generalize w.drew = w at hs ⊢
  change Ch.CW _ _ _ _ _ [0, 1, 2, 3, 4, 5, 6, 7, 8, 9, 10, 11] _ _
  iterate 9 ((first | (refine Ch.pure (v := ?_) (by rfl) (by rfl) (by rfl) (fun wx hS => ?_) ?_; rotate_left; (focus (go_simp; (first | done | with_reducible rfl)))) | refine Ch.pure (v := _) (by rfl) (by rfl) (by rfl) (fun wx hS => Se.xl rfl rfl (by rw [hS.1.cell]; exact R5.out) (by decide +kernel)) ?_ | refine Ch.pure (v := _) (by rfl) (by rfl) (by rfl) (fun wx hS => Se.xl rfl rfl hS.2 (by decide +kernel)) ?_); (try simp only [Act.put, List.setIfInBounds_toArray, List.set_cons_zero, List.set_cons_succ]))
  refine Ch.noise (by rfl) (by rfl) (by rfl) (Se.bsv hs rfl Try.underlying106 inti rfl [.int .i64 i] (by rfl) (by rfl) (by decide) (by decide) (by simp [Value.oneCell']) ?_)
  clear hs
  rintro w g21 - hs
  refine ⟨⟨hs.hold (.blk g 71 RL) (by simp), HI.out [_, _] _ hs.hold⟩, ?_⟩
  (try simp only [Act.put, List.setIfInBounds_toArray, List.set_cons_zero, List.set_cons_succ])
  refine Ch.noise (by rfl) (by rfl) (by rfl) ?_
  refine Se.gcall (f := 32) (args := #[.int .i64 0, .int .i64 ((k : Int) - 1), .slice (some ⟨g21, 0, none⟩) 1 1]) ?_ ?_
  ·go_simp
  refine Calls.mono (within_st (n := 1) hs 0 ((k : Int) - 1) (xs := [i]) rfl (Reads.blk 0 rfl) (by decide) HW.out) ?_
  clear hs
  rintro e w ⟨rfl, hs⟩
  refine ⟨_, rfl, ⟨hs.hold (.blk g 71 RL) (by simp), HI.out [_, _] _ hs.hold⟩, ?_⟩
  (try simp only [Act.put, List.setIfInBounds_toArray, List.set_cons_zero, List.set_cons_succ])
  iterate 1 ((first | (refine Ch.pure (v := ?_) (by rfl) (by rfl) (by rfl) (fun wx hS => ?_) ?_; rotate_left; (focus (go_simp; (first | done | with_reducible rfl))))); (try simp only [Act.put, List.setIfInBounds_toArray, List.set_cons_zero, List.set_cons_succ]))
  refine Ch.done ?_
  try simp only [List.drop_succ_cons, List.drop_zero]
  go_wp2_with (first | (go_at_call 36; refine Calls.mono (must_f hs 2 (by decide)) ?_; clear hs; rintro e w ⟨rfl, hs⟩))
  exact ⟨rfl, trivial, HE.out _ hs.drop.drop⟩
 obtain ⟨ii, rfl⟩ : ∃ m : Nat, i = (m : Int) := ⟨i.toNat, by omega⟩
 have hik : ii < k := by omega
 have HW := Lib.hid (show [(ii : Int)].all (fun x => decide (0 ≤ x ∧ x ≤ (k : Int) - 1)) = true by simp; omega)
 have ME : Hid (manageE z (ii : Int) 4 = actE z ii 4) := Lib.hid (by unfold manageE; rw [if_neg (by rw [← hk]; omega)]; rfl)
 have CA : Hid (∀ (w : World), St w0 X (.blk g 71 RL :: pL r (some a) cc z :: L) w → Calls Try.prog 76 #[.pointer (some ⟨g, 0, none⟩), .int .i64 (ii : Int)] w fun e' w' => True ∧ ER w0 X L g cc a r (actE z ii 4) e' w') := Lib.hid (fun w hs => by
  rw [← E1.out] at hs
  exact reset_st hs ho (by rw [← hk]; exact hik))
 obtain ⟨q, hq⟩ : ∃ q, q = actE z ii 4 := ⟨_, rfl⟩
 rw [← hq] at ME CA
 clear BAD hk ho hin hik hq
 go_enter Try.func44, Try.ntmps44
 go_upto_region 0 with (fail)
 refine Ch.region' 8 (fun wx => wx.cell? ⟨gA, 0, none⟩ = some (.int .i64 4)) (fun | 0 => true | 2 => true | _ => false) (by kernel_rfl) (by decide +kernel) (HA.out [] _ hs.drew.hold) ?_
 replace hs := hs.drew
 generalize w.drew = w at hs ⊢
 change Ch.CW _ _ _ _ _ [0, 1, 2, 3, 4, 5, 6, 7] _ _
 refine Ch.noise (by rfl) (by rfl) (by rfl) ?_
 refine Se.gcall (f := 45) (args := #[]) ?_ ?_
 ·go_simp
 refine Calls.mono (actions_st hs) ?_
 clear hs
 rintro e w ⟨gm, rfl, hs⟩
 refine ⟨_, rfl, HA.out [_] _ hs.hold, ?_⟩
 (try simp only [Act.put, List.setIfInBounds_toArray, List.set_cons_zero, List.set_cons_succ])
 iterate 1 ((first | (refine Ch.pure (v := ?_) (by rfl) (by rfl) (by rfl) (fun wx hS => ?_) ?_; rotate_left; (focus (go_simp; (first | done | with_reducible rfl)))) | refine Ch.pure (v := _) (by rfl) (by rfl) (by rfl) (fun wx hS => Se.xl rfl rfl hS (by decide +kernel)) ?_); (try simp only [Act.put, List.setIfInBounds_toArray, List.set_cons_zero, List.set_cons_succ]))
 refine Ch.noise (by rfl) (by rfl) (by rfl) (mlk hs rfl rfl rfl List.mem_cons_self Try.underlying95 Try.underlying48 zAct (show _ = some (some (3, Value.func (.func 76) #[] #[])) by rfl) (v := .func (.func 76) #[] #[]) (b := true) rfl rfl ?_)
 refine ⟨HA.out [_] _ hs.hold, ?_⟩
 (try simp only [Act.put, List.setIfInBounds_toArray, List.set_cons_zero, List.set_cons_succ])
 iterate 5 ((first | (refine Ch.pure (v := ?_) (by rfl) (by rfl) (by rfl) (fun wx hS => ?_) ?_; rotate_left; (focus (go_simp; (first | done | with_reducible rfl))))); (try simp only [Act.put, List.setIfInBounds_toArray, List.set_cons_zero, List.set_cons_succ]))
 refine Ch.done ?_
 try simp only [List.drop_succ_cons, List.drop_zero]
 go_upto_region 1 with (fail)
 refine Ch.region' 12 (fun wx => Blk wx g RL 71 ∧ wx.cell? ⟨gI, 0, none⟩ = some (.int .i64 (ii : Int))) (fun | 9 => true | 10 => true | _ => false) (by kernel_rfl) (by decide +kernel) (⟨hs.drew.hold (.blk g 71 RL) (by simp), HI.out [_] _ hs.drew.hold⟩) ?_
 replace hs := hs.drew
 generalize w.drew = w at hs ⊢
 change Ch.CW _ _ _ _ _ [0, 1, 2, 3, 4, 5, 6, 7, 8, 9, 10, 11] _ _
 iterate 9 ((first | (refine Ch.pure (v := ?_) (by rfl) (by rfl) (by rfl) (fun wx hS => ?_) ?_; rotate_left; (focus (go_simp; (first | done | with_reducible rfl)))) | refine Ch.pure (v := _) (by rfl) (by rfl) (by rfl) (fun wx hS => Se.xl rfl rfl (by rw [hS.1.cell]; exact R5.out) (by decide +kernel)) ?_ | refine Ch.pure (v := _) (by rfl) (by rfl) (by rfl) (fun wx hS => Se.xl rfl rfl hS.2 (by decide +kernel)) ?_); (try simp only [Act.put, List.setIfInBounds_toArray, List.set_cons_zero, List.set_cons_succ]))
 refine Ch.noise (by rfl) (by rfl) (by rfl) (Se.bsv hs rfl Try.underlying106 inti rfl [.int .i64 (ii : Int)] (by rfl) (by rfl) (by decide) (by decide) (by simp [Value.oneCell']) ?_)
 clear hs
 rintro w g21 - hs
 refine ⟨⟨hs.hold (.blk g 71 RL) (by simp), HI.out [_, _] _ hs.hold⟩, ?_⟩
 (try simp only [Act.put, List.setIfInBounds_toArray, List.set_cons_zero, List.set_cons_succ])
 refine Ch.noise (by rfl) (by rfl) (by rfl) ?_
 refine Se.gcall (f := 32) (args := #[.int .i64 0, .int .i64 ((k : Int) - 1), .slice (some ⟨g21, 0, none⟩) 1 1]) ?_ ?_
 ·go_simp
 refine Calls.mono (within_st (n := 1) hs 0 ((k : Int) - 1) (xs := [(ii : Int)]) rfl (Reads.blk 0 rfl) (by decide) HW.out) ?_
 clear hs
 rintro e w ⟨rfl, hs⟩
 refine ⟨_, rfl, ⟨hs.hold (.blk g 71 RL) (by simp), HI.out [_, _] _ hs.hold⟩, ?_⟩
 (try simp only [Act.put, List.setIfInBounds_toArray, List.set_cons_zero, List.set_cons_succ])
 iterate 1 ((first | (refine Ch.pure (v := ?_) (by rfl) (by rfl) (by rfl) (fun wx hS => ?_) ?_; rotate_left; (focus (go_simp; (first | done | with_reducible rfl))))); (try simp only [Act.put, List.setIfInBounds_toArray, List.set_cons_zero, List.set_cons_succ]))
 refine Ch.done ?_
 try simp only [List.drop_succ_cons, List.drop_zero]
 go_upto_region 2 with (first | (go_at_call 36; refine Calls.mono (must_t hs 2) ?_; clear hs; rintro e w ⟨rfl, hs⟩))
 replace hs := hs.drop.drop
 by_cases hq0 : q.2 = 0
 ·have CA2 : Hid (∀ (w : World), St w0 X (.blk g 71 RL :: pL r (some a) cc z :: L) w → Calls Try.prog 76 #[.pointer (some ⟨g, 0, none⟩), .int .i64 (ii : Int)] w fun e' w' => e' = .returned (.tuple #[]) ∧ ER w0 X L g cc a r (manageE z (ii : Int) 4) e' w') := Lib.hid (fun w hs => (CA.out w hs).mono (by
   rintro e w ⟨_, h⟩
   rw [ME.out]
   refine ⟨?_, h⟩
   rcases h with ⟨_, h1, _⟩ | ⟨h1, _⟩
   ·exact h1
   ·exact absurd hq0 h1))
  clear CA hq0 ME
  go_wp2_with (first | ((with_reducible refine Se.isL (o := ⟨some 27, _, _, _, _, _⟩) ?_); (refine Se.toL rfl (Se.ld (o := ⟨some 27, _, _, _, _, _⟩) hs rfl rfl (HI.out []) (by kernel_rfl) ?_))) | (go_at_call 76; refine Calls.mono (CA2.out _ hs) ?_; clear hs; rintro e w ⟨rfl, hE⟩))
  go_end0
  first | exact hE | exact ⟨trivial, hE⟩
 ·have CA2 : Hid (∀ (w : World), St w0 X (.blk g 71 RL :: pL r (some a) cc z :: L) w → Calls Try.prog 76 #[.pointer (some ⟨g, 0, none⟩), .int .i64 (ii : Int)] w fun e' w' => e' = .panicked (chS q.2) ∧ ER w0 X L g cc a r (manageE z (ii : Int) 4) (.panicked (chS q.2)) w') := Lib.hid (fun w hs => (CA.out w hs).mono (by
   rintro e w ⟨_, h⟩
   rw [ME.out]
   rcases h with ⟨h1, _⟩ | ⟨h0, h1, h2⟩
   ·exact absurd h1 hq0
   ·exact ⟨h1, .inr ⟨h0, rfl, h2⟩⟩))
  clear CA hq0 ME
  go_wp2_with (first | ((with_reducible refine Se.isL (o := ⟨some 27, _, _, _, _, _⟩) ?_); (refine Se.toL rfl (Se.ld (o := ⟨some 27, _, _, _, _, _⟩) hs rfl rfl (HI.out []) (by kernel_rfl) ?_))) | (go_at_call 76; refine Calls.mono (CA2.out _ hs) ?_; clear hs; rintro e w ⟨rfl, hE⟩))
  exact ⟨rfl, trivial, hE⟩
theorem man5 {g cc gA gI : Nat} {z : Zs} {a : Addr} {r : Option Nat} (hs : St w0 X (pZ g z (some a) cc :: pL r (some a) cc z :: L) w) (ho : OkZ z) {i : Int} (hI : Cell L gI 0 (.int .i64 i)) (hA : Cell L gA 0 (.int .i64 5)) :
  Calls Try.prog 44 #[.pointer (some ⟨g, 0, none⟩), .pointer (some ⟨gA, 0, none⟩), .pointer (some ⟨gI, 0, none⟩)] w fun e' w' => True ∧ ER w0 X L g cc a r (manageE z i 5) e' w' := by
 obtain ⟨RL, hRL⟩ : ∃ RL, RL = zcl z (some a) cc := ⟨_, rfl⟩
 obtain ⟨k, hk⟩ : ∃ n, n = z.l.length := ⟨_, rfl⟩
 have hk1 : k ≤ 4096 := by rw [hk, ho.1]; exact ho.2.2.1
 have hk0 : 1 ≤ k := by rw [hk, ho.1]; exact ho.2.1
 have R5 := Lib.hid (show RL[5]? = some (.slice (some a) k cc) by rw [hRL, hk]; rfl)
 have e1 : pZ g z (some a) cc = .blk g 71 RL := by rw [hRL]
 have HA : Hid (∀ (M : List At), Cell (M ++ (.blk g 71 RL :: pL r (some a) cc z :: L)) gA 0 (.int .i64 5)) := Lib.hid (fun M => capp M (capp [_, _] hA))
 have BAD : Hid (manageE z i 5 = (z, 2) → ∀ (w : World), St w0 X (.blk g 71 RL :: pL r (some a) cc z :: L) w → ER w0 X L g cc a r (manageE z i 5) (.panicked (chS 2)) w) := Lib.hid (fun he w hs => by
  rw [← e1] at hs
  exact .inr (by rw [he]; exact ⟨(show (2 : Nat) ≠ 0 by decide), rfl, z, hs⟩))
 rw [e1] at hs
 have E1 := Lib.hid e1
 have HK := Lib.hid hk
 have HRL := Lib.hid hRL
 clear hRL hA e1
 have HI : Hid (∀ (M : List At), Cell (M ++ (.blk g 71 RL :: pL r (some a) cc z :: L)) gI 0 (.int .i64 i)) := Lib.hid (fun M => capp M (capp [_, _] hI))
 have w1 : IntKind.i64.wrap ((k : Int) - 1) = (k : Int) - 1 := IntWalk.i64_in _ (by omega)
 clear hI
 by_cases hin : i < 0 ∨ (k : Int) ≤ i
 ·have HE := Lib.hid (BAD.out (by unfold manageE; rw [if_pos (by rw [← hk]; omega)]))
  have HW := Lib.hid (show [i].all (fun x => decide (0 ≤ x ∧ x ≤ (k : Int) - 1)) = false by simp; omega)
  clear BAD hk ho hin
  go_enter Try.func44, Try.ntmps44
  go_upto_region 0 with (fail)
  refine Ch.region' 8 (fun wx => wx.cell? ⟨gA, 0, none⟩ = some (.int .i64 5)) (fun | 0 => true | 2 => true | _ => false) (by kernel_rfl) (by decide +kernel) (HA.out [] _ hs.drew.hold) ?_
  replace hs := hs.drew
  generalize w.drew = w at hs ⊢
  change Ch.CW _ _ _ _ _ [0, 1, 2, 3, 4, 5, 6, 7] _ _
  refine Ch.noise (by rfl) (by rfl) (by rfl) ?_
  refine Se.gcall (f := 45) (args := #[]) ?_ ?_
  ·go_simp
  refine Calls.mono (actions_st hs) ?_
  clear hs
  rintro e w ⟨gm, rfl, hs⟩
  refine ⟨_, rfl, HA.out [_] _ hs.hold, ?_⟩
  (try simp only [Act.put, List.setIfInBounds_toArray, List.set_cons_zero, List.set_cons_succ])
  iterate 1 ((first | (refine Ch.pure (v := ?_) (by rfl) (by rfl) (by rfl) (fun wx hS => ?_) ?_; rotate_left; (focus (go_simp; (first | done | with_reducible rfl)))) | refine Ch.pure (v := _) (by rfl) (by rfl) (by rfl) (fun wx hS => Se.xl rfl rfl hS (by decide +kernel)) ?_); (try simp only [Act.put, List.setIfInBounds_toArray, List.set_cons_zero, List.set_cons_succ]))
  refine Ch.noise (by rfl) (by rfl) (by rfl) (mlk hs rfl rfl rfl List.mem_cons_self Try.underlying95 Try.underlying48 zAct (show _ = some (some (4, Value.func (.func 77) #[] #[])) by rfl) (v := .func (.func 77) #[] #[]) (b := true) rfl rfl ?_)
  refine ⟨HA.out [_] _ hs.hold, ?_⟩
  (try simp only [Act.put, List.setIfInBounds_toArray, List.set_cons_zero, List.set_cons_succ])
  iterate 5 ((first | (refine Ch.pure (v := ?_) (by rfl) (by rfl) (by rfl) (fun wx hS => ?_) ?_; rotate_left; (focus (go_simp; (first | done | with_reducible rfl))))); (try simp only [Act.put, List.setIfInBounds_toArray, List.set_cons_zero, List.set_cons_succ]))
  refine Ch.done ?_
  try simp only [List.drop_succ_cons, List.drop_zero]
  go_upto_region 1 with (fail)
  refine Ch.region' 12 (fun wx => Blk wx g RL 71 ∧ wx.cell? ⟨gI, 0, none⟩ = some (.int .i64 i)) (fun | 9 => true | 10 => true | _ => false) (by kernel_rfl) (by decide +kernel) (⟨hs.drew.hold (.blk g 71 RL) (by simp), HI.out [_] _ hs.drew.hold⟩) ?_
  replace hs := hs.drew
  generalize w.drew = w at hs ⊢
  change Ch.CW _ _ _ _ _ [0, 1, 2, 3, 4, 5, 6, 7, 8, 9, 10, 11] _ _
  iterate 9 ((first | (refine Ch.pure (v := ?_) (by rfl) (by rfl) (by rfl) (fun wx hS => ?_) ?_; rotate_left; (focus (go_simp; (first | done | with_reducible rfl)))) | refine Ch.pure (v := _) (by rfl) (by rfl) (by rfl) (fun wx hS => Se.xl rfl rfl (by rw [hS.1.cell]; exact R5.out) (by decide +kernel)) ?_ | refine Ch.pure (v := _) (by rfl) (by rfl) (by rfl) (fun wx hS => Se.xl rfl rfl hS.2 (by decide +kernel)) ?_); (try simp only [Act.put, List.setIfInBounds_toArray, List.set_cons_zero, List.set_cons_succ]))
  refine Ch.noise (by rfl) (by rfl) (by rfl) (Se.bsv hs rfl Try.underlying106 inti rfl [.int .i64 i] (by rfl) (by rfl) (by decide) (by decide) (by simp [Value.oneCell']) ?_)
  clear hs
  rintro w g21 - hs
  refine ⟨⟨hs.hold (.blk g 71 RL) (by simp), HI.out [_, _] _ hs.hold⟩, ?_⟩
  (try simp only [Act.put, List.setIfInBounds_toArray, List.set_cons_zero, List.set_cons_succ])
  refine Ch.noise (by rfl) (by rfl) (by rfl) ?_
  refine Se.gcall (f := 32) (args := #[.int .i64 0, .int .i64 ((k : Int) - 1), .slice (some ⟨g21, 0, none⟩) 1 1]) ?_ ?_
  ·go_simp
  refine Calls.mono (within_st (n := 1) hs 0 ((k : Int) - 1) (xs := [i]) rfl (Reads.blk 0 rfl) (by decide) HW.out) ?_
  clear hs
  rintro e w ⟨rfl, hs⟩
  refine ⟨_, rfl, ⟨hs.hold (.blk g 71 RL) (by simp), HI.out [_, _] _ hs.hold⟩, ?_⟩
  (try simp only [Act.put, List.setIfInBounds_toArray, List.set_cons_zero, List.set_cons_succ])
  iterate 1 ((first | (refine Ch.pure (v := ?_) (by rfl) (by rfl) (by rfl) (fun wx hS => ?_) ?_; rotate_left; (focus (go_simp; (first | done | with_reducible rfl))))); (try simp only [Act.put, List.setIfInBounds_toArray, List.set_cons_zero, List.set_cons_succ]))
  refine Ch.done ?_
  try simp only [List.drop_succ_cons, List.drop_zero]
  go_wp2_with (first | (go_at_call 36; refine Calls.mono (must_f hs 2 (by decide)) ?_; clear hs; rintro e w ⟨rfl, hs⟩))
  exact ⟨rfl, trivial, HE.out _ hs.drop.drop⟩
 obtain ⟨ii, rfl⟩ : ∃ m : Nat, i = (m : Int) := ⟨i.toNat, by omega⟩
 have hik : ii < k := by omega
 have HW := Lib.hid (show [(ii : Int)].all (fun x => decide (0 ≤ x ∧ x ≤ (k : Int) - 1)) = true by simp; omega)
 have ME : Hid (manageE z (ii : Int) 5 = actE z ii 5) := Lib.hid (by unfold manageE; rw [if_neg (by rw [← hk]; omega)]; rfl)
 have CA : Hid (∀ (w : World), St w0 X (.blk g 71 RL :: pL r (some a) cc z :: L) w → Calls Try.prog 77 #[.pointer (some ⟨g, 0, none⟩), .int .i64 (ii : Int)] w fun e' w' => True ∧ ER w0 X L g cc a r (actE z ii 5) e' w') := Lib.hid (fun w hs => by
  rw [← E1.out] at hs
  exact drop_st hs ho (by rw [← hk]; exact hik))
 obtain ⟨q, hq⟩ : ∃ q, q = actE z ii 5 := ⟨_, rfl⟩
 rw [← hq] at ME CA
 clear BAD hk ho hin hik hq
 go_enter Try.func44, Try.ntmps44
 go_upto_region 0 with (fail)
 refine Ch.region' 8 (fun wx => wx.cell? ⟨gA, 0, none⟩ = some (.int .i64 5)) (fun | 0 => true | 2 => true | _ => false) (by kernel_rfl) (by decide +kernel) (HA.out [] _ hs.drew.hold) ?_
 replace hs := hs.drew
 generalize w.drew = w at hs ⊢
 change Ch.CW _ _ _ _ _ [0, 1, 2, 3, 4, 5, 6, 7] _ _
 refine Ch.noise (by rfl) (by rfl) (by rfl) ?_
 refine Se.gcall (f := 45) (args := #[]) ?_ ?_
 ·go_simp
 refine Calls.mono (actions_st hs) ?_
 clear hs
 rintro e w ⟨gm, rfl, hs⟩
 refine ⟨_, rfl, HA.out [_] _ hs.hold, ?_⟩
 (try simp only [Act.put, List.setIfInBounds_toArray, List.set_cons_zero, List.set_cons_succ])
 iterate 1 ((first | (refine Ch.pure (v := ?_) (by rfl) (by rfl) (by rfl) (fun wx hS => ?_) ?_; rotate_left; (focus (go_simp; (first | done | with_reducible rfl)))) | refine Ch.pure (v := _) (by rfl) (by rfl) (by rfl) (fun wx hS => Se.xl rfl rfl hS (by decide +kernel)) ?_); (try simp only [Act.put, List.setIfInBounds_toArray, List.set_cons_zero, List.set_cons_succ]))
 refine Ch.noise (by rfl) (by rfl) (by rfl) (mlk hs rfl rfl rfl List.mem_cons_self Try.underlying95 Try.underlying48 zAct (show _ = some (some (4, Value.func (.func 77) #[] #[])) by rfl) (v := .func (.func 77) #[] #[]) (b := true) rfl rfl ?_)
 refine ⟨HA.out [_] _ hs.hold, ?_⟩
 (try simp only [Act.put, List.setIfInBounds_toArray, List.set_cons_zero, List.set_cons_succ])
 iterate 5 ((first | (refine Ch.pure (v := ?_) (by rfl) (by rfl) (by rfl) (fun wx hS => ?_) ?_; rotate_left; (focus (go_simp; (first | done | with_reducible rfl))))); (try simp only [Act.put, List.setIfInBounds_toArray, List.set_cons_zero, List.set_cons_succ]))
 refine Ch.done ?_
 try simp only [List.drop_succ_cons, List.drop_zero]
 go_upto_region 1 with (fail)
 refine Ch.region' 12 (fun wx => Blk wx g RL 71 ∧ wx.cell? ⟨gI, 0, none⟩ = some (.int .i64 (ii : Int))) (fun | 9 => true | 10 => true | _ => false) (by kernel_rfl) (by decide +kernel) (⟨hs.drew.hold (.blk g 71 RL) (by simp), HI.out [_] _ hs.drew.hold⟩) ?_
 replace hs := hs.drew
 generalize w.drew = w at hs ⊢
 change Ch.CW _ _ _ _ _ [0, 1, 2, 3, 4, 5, 6, 7, 8, 9, 10, 11] _ _
 iterate 9 ((first | (refine Ch.pure (v := ?_) (by rfl) (by rfl) (by rfl) (fun wx hS => ?_) ?_; rotate_left; (focus (go_simp; (first | done | with_reducible rfl)))) | refine Ch.pure (v := _) (by rfl) (by rfl) (by rfl) (fun wx hS => Se.xl rfl rfl (by rw [hS.1.cell]; exact R5.out) (by decide +kernel)) ?_ | refine Ch.pure (v := _) (by rfl) (by rfl) (by rfl) (fun wx hS => Se.xl rfl rfl hS.2 (by decide +kernel)) ?_); (try simp only [Act.put, List.setIfInBounds_toArray, List.set_cons_zero, List.set_cons_succ]))
 refine Ch.noise (by rfl) (by rfl) (by rfl) (Se.bsv hs rfl Try.underlying106 inti rfl [.int .i64 (ii : Int)] (by rfl) (by rfl) (by decide) (by decide) (by simp [Value.oneCell']) ?_)
 clear hs
 rintro w g21 - hs
 refine ⟨⟨hs.hold (.blk g 71 RL) (by simp), HI.out [_, _] _ hs.hold⟩, ?_⟩
 (try simp only [Act.put, List.setIfInBounds_toArray, List.set_cons_zero, List.set_cons_succ])
 refine Ch.noise (by rfl) (by rfl) (by rfl) ?_
 refine Se.gcall (f := 32) (args := #[.int .i64 0, .int .i64 ((k : Int) - 1), .slice (some ⟨g21, 0, none⟩) 1 1]) ?_ ?_
 ·go_simp
 refine Calls.mono (within_st (n := 1) hs 0 ((k : Int) - 1) (xs := [(ii : Int)]) rfl (Reads.blk 0 rfl) (by decide) HW.out) ?_
 clear hs
 rintro e w ⟨rfl, hs⟩
 refine ⟨_, rfl, ⟨hs.hold (.blk g 71 RL) (by simp), HI.out [_, _] _ hs.hold⟩, ?_⟩
 (try simp only [Act.put, List.setIfInBounds_toArray, List.set_cons_zero, List.set_cons_succ])
 iterate 1 ((first | (refine Ch.pure (v := ?_) (by rfl) (by rfl) (by rfl) (fun wx hS => ?_) ?_; rotate_left; (focus (go_simp; (first | done | with_reducible rfl))))); (try simp only [Act.put, List.setIfInBounds_toArray, List.set_cons_zero, List.set_cons_succ]))
 refine Ch.done ?_
 try simp only [List.drop_succ_cons, List.drop_zero]
 go_upto_region 2 with (first | (go_at_call 36; refine Calls.mono (must_t hs 2) ?_; clear hs; rintro e w ⟨rfl, hs⟩))
 replace hs := hs.drop.drop
 by_cases hq0 : q.2 = 0
 ·have CA2 : Hid (∀ (w : World), St w0 X (.blk g 71 RL :: pL r (some a) cc z :: L) w → Calls Try.prog 77 #[.pointer (some ⟨g, 0, none⟩), .int .i64 (ii : Int)] w fun e' w' => e' = .returned (.tuple #[]) ∧ ER w0 X L g cc a r (manageE z (ii : Int) 5) e' w') := Lib.hid (fun w hs => (CA.out w hs).mono (by
   rintro e w ⟨_, h⟩
   rw [ME.out]
   refine ⟨?_, h⟩
   rcases h with ⟨_, h1, _⟩ | ⟨h1, _⟩
   ·exact h1
   ·exact absurd hq0 h1))
  clear CA hq0 ME
  go_wp2_with (first | ((with_reducible refine Se.isL (o := ⟨some 27, _, _, _, _, _⟩) ?_); (refine Se.toL rfl (Se.ld (o := ⟨some 27, _, _, _, _, _⟩) hs rfl rfl (HI.out []) (by kernel_rfl) ?_))) | (go_at_call 77; refine Calls.mono (CA2.out _ hs) ?_; clear hs; rintro e w ⟨rfl, hE⟩))
  go_end0
  first | exact hE | exact ⟨trivial, hE⟩
 ·have CA2 : Hid (∀ (w : World), St w0 X (.blk g 71 RL :: pL r (some a) cc z :: L) w → Calls Try.prog 77 #[.pointer (some ⟨g, 0, none⟩), .int .i64 (ii : Int)] w fun e' w' => e' = .panicked (chS q.2) ∧ ER w0 X L g cc a r (manageE z (ii : Int) 5) (.panicked (chS q.2)) w') := Lib.hid (fun w hs => (CA.out w hs).mono (by
   rintro e w ⟨_, h⟩
   rw [ME.out]
   rcases h with ⟨h1, _⟩ | ⟨h0, h1, h2⟩
   ·exact absurd h1 hq0
   ·exact ⟨h1, .inr ⟨h0, rfl, h2⟩⟩))
  clear CA hq0 ME
  go_wp2_with (first | ((with_reducible refine Se.isL (o := ⟨some 27, _, _, _, _, _⟩) ?_); (refine Se.toL rfl (Se.ld (o := ⟨some 27, _, _, _, _, _⟩) hs rfl rfl (HI.out []) (by kernel_rfl) ?_))) | (go_at_call 77; refine Calls.mono (CA2.out _ hs) ?_; clear hs; rintro e w ⟨rfl, hE⟩))
  exact ⟨rfl, trivial, hE⟩
theorem manage1_st {g cc gA gI : Nat} {z : Zs} {a : Addr} {r : Option Nat} (hs : St w0 X (pZ g z (some a) cc :: pL r (some a) cc z :: L) w) (ho : OkZ z) {a0 i : Int} (hI : Cell L gI 0 (.int .i64 i)) (hA : Cell L gA 0 (.int .i64 a0)) :
  Calls Try.prog 44 #[.pointer (some ⟨g, 0, none⟩), .pointer (some ⟨gA, 0, none⟩), .pointer (some ⟨gI, 0, none⟩)] w fun e' w' => True ∧ ER w0 X L g cc a r (manageE z i a0) e' w' := by
 by_cases h5 : a0 < 1 ∨ 5 < a0
 ·exact man0 hs ho h5 hI hA
 ·have h : a0 = 1 ∨ a0 = 2 ∨ a0 = 3 ∨ a0 = 4 ∨ a0 = 5 := by omega
  rcases h with rfl | rfl | rfl | rfl | rfl
  ·exact man1 hs ho hI hA
  ·exact man2 hs ho hI hA
  ·exact man3 hs ho hI hA
  ·exact man4 hs ho hI hA
  ·exact man5 hs ho hI hA
end Zo
end Go.Proofs.Ythpgkkfahiglnaa


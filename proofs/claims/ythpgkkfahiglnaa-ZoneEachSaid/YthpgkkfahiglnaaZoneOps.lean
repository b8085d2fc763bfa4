/- Layer 28: inside, count, Open, Active. No condition but Go's own limits. Printed by wip/gen_zoneops.py. -/
import Derived.Test.YthpgkkfahiglnaaZoneTry
set_option maxRecDepth 100000
set_option maxHeartbeats 4000000
set_option linter.unusedSimpArgs false
set_option linter.unusedVariables false
namespace Go.Proofs.Ythpgkkfahiglnaa
open Go Go.RowKit
namespace Zo
open Se (St At Reads Cell)
open Li (Rd Blk Fr)
variable {w0 w : World} {X : List Nat} {L : List At}
attribute [local irreducible] Calls
attribute [local go_sem] eql_nil
theorem inti : (Try.prog.info? 3).map (fun i => (i.zero, i.size)) = some (some (.int .i64 0), 1) := by kernel_rfl
theorem ocs_row (l : List Zn) : ∀ (i : Nat) (h : i < l.length), ((ocs l).drop (i * 3)).take 3 = oc l[i] := by
 induction l with
 | nil => intro i h; simp at h
 | cons x l ih =>
  intro i h
  cases i with
  | zero => rfl
  | succ i =>
   have e : (i + 1) * 3 = 3 + i * 3 := by omega
   show (((oc x ++ ocs l).drop ((i + 1) * 3)).take 3) = _
   rw [e, ← List.drop_drop, List.drop_left' (by rfl)]
   exact ih i (by simpa using h)
theorem row_at {A : Nat} {o : Nat} {l : List Zn} (hr : Reads L (some ⟨A, o, none⟩) (ocs l)) {i : Nat} (h : i < l.length) : Reads L (some ⟨A, o + i * 3, none⟩) (oc l[i]) := by
 have h1 := (hr.at (i * 3)).take 3
 rwa [ocs_row l i h] at h1
theorem inside_ok {g cc : Nat} {z : Zs} {a : Addr} (hs : St w0 X (pZ g z (some a) cc :: L) w) (ho : OkZ z) {lba n : Int} (hi : insd z lba n = true) :
  Calls Try.prog 37 #[.pointer (some ⟨g, 0, none⟩), .int .i64 lba, .int .i64 n] w fun e w' => e = .returned (.tuple #[]) ∧ St w0 X (pZ g z (some a) cc :: L) w' := by
 obtain ⟨RL, hRL⟩ : ∃ RL, RL = zcl z (some a) cc := ⟨_, rfl⟩
 obtain ⟨k, hk⟩ : ∃ n, n = z.l.length := ⟨_, rfl⟩
 obtain ⟨sz, hsz⟩ : ∃ n, n = z.c.sz := ⟨_, rfl⟩
 obtain ⟨al, hal⟩ : ∃ n, n = k * sz := ⟨_, rfl⟩
 have hkn : k = z.c.n := by rw [hk]; exact ho.1
 have hk1 : k ≤ 4096 := by rw [hkn]; exact ho.2.2.1
 have hs1 : sz ≤ 65536 := by rw [hsz]; exact ho.2.2.2.2.1
 have hal1 : al ≤ 268435456 := by rw [hal]; exact Nat.mul_le_mul hk1 hs1
 have R5 := Lib.hid (show RL[5]? = some (.slice (some a) k cc) by rw [hRL, hk]; rfl)
 have R1 := Lib.hid (show RL[1]? = some (iv sz) by rw [hRL, hsz]; rfl)
 have w1 : IntKind.i64.wrap ((k : Int) * (sz : Int)) = (al : Int) := by rw [← Int.natCast_mul, ← hal]; exact IntWalk.i64_in _ (by omega)
 have HI : Hid (decide (0 ≤ lba ∧ lba ≤ (al : Int) ∧ n ≤ (al : Int) - lba) = true) := Lib.hid (by
  unfold insd at hi
  rw [← hkn, ← hsz, ← hal] at hi
  exact hi)
 simp only [pZ] at hs ⊢
 rw [← hRL] at hs ⊢
 clear hRL hk hsz hal hi hkn ho
 have hq := HI.out
 simp only [decide_eq_true_eq] at hq
 have HW := Lib.hid (show [lba].all (fun x => decide (0 ≤ x ∧ x ≤ (al : Int))) = true by simp; omega)
 have hd : decide (n ≤ (al : Int) - lba) = true := by simp; omega
 have hl1 : 0 ≤ lba := hq.1
 have hl2 : lba ≤ 268435456 := by omega
 clear HI hq
 go_enter Try.func37, Try.ntmps37
 go_upto_region 0 with (fail)
 refine Ch.region' 12 (fun wx => Blk wx g RL 71) (fun  | _ => false) (by kernel_rfl) (by decide +kernel) (hs.drew.hold (.blk g 71 RL) (by simp)) ?_
 replace hs := hs.drew
 generalize w.drew = w at hs ⊢
 change Ch.CW _ _ _ _ _ [0, 1, 2, 3, 4, 5, 6, 7, 8, 9, 10, 11] _ _
 iterate 12 ((first | (refine Ch.pure (v := ?_) (by rfl) (by rfl) (by rfl) (fun wx hS => ?_) ?_; rotate_left; (focus (go_simp; (first | done | with_reducible rfl)))) | refine Ch.pure (v := _) (by rfl) (by rfl) (by rfl) (fun wx hS => Se.xl rfl rfl (by rw [hS.cell]; exact R5.out) (by decide +kernel)) ?_ | refine Ch.pure (v := _) (by rfl) (by rfl) (by rfl) (fun wx hS => Se.xl rfl rfl (by rw [hS.cell]; exact R1.out) (by decide +kernel)) ?_); (try simp only [Act.put, List.setIfInBounds_toArray, List.set_cons_zero, List.set_cons_succ]))
 refine Ch.done ?_
 try simp only [List.drop_succ_cons, List.drop_zero]
 go_wp2_with (first | ((with_reducible refine Se.isL (o := ⟨some 20, _, _, _, _, _⟩) ?_); (refine Se.toL rfl (Se.bsv (o := ⟨some 20, _, _, _, _, _⟩) hs rfl Try.underlying106 inti rfl ([.int .i64 lba]) (by rfl) (by rfl) (by decide) (by decide) (by simp [Value.oneCell']) ?_); clear hs; rintro w g20 - hs)) | (go_at_call 32; refine Calls.mono (within_st (n := 1) hs 0 (al : Int) (xs := [lba]) rfl (Reads.blk 0 rfl) (by omega) (b := true) HW.out) ?_; clear hs; rintro e w ⟨rfl, hs⟩) | (go_at_call 36; refine Calls.mono (must_t hs 128) ?_; clear hs; rintro e w ⟨rfl, hs⟩))
 go_end0
 exact ⟨rfl, hs.drop⟩
theorem inside_bad {g cc : Nat} {z : Zs} {a : Addr} (hs : St w0 X (pZ g z (some a) cc :: L) w) (ho : OkZ z) {lba n : Int} (hi : insd z lba n = false) :
  Calls Try.prog 37 #[.pointer (some ⟨g, 0, none⟩), .int .i64 lba, .int .i64 n] w fun e w' => e = .panicked (chS 128) ∧ St w0 X (pZ g z (some a) cc :: L) w' := by
 obtain ⟨RL, hRL⟩ : ∃ RL, RL = zcl z (some a) cc := ⟨_, rfl⟩
 obtain ⟨k, hk⟩ : ∃ n, n = z.l.length := ⟨_, rfl⟩
 obtain ⟨sz, hsz⟩ : ∃ n, n = z.c.sz := ⟨_, rfl⟩
 obtain ⟨al, hal⟩ : ∃ n, n = k * sz := ⟨_, rfl⟩
 have hkn : k = z.c.n := by rw [hk]; exact ho.1
 have hk1 : k ≤ 4096 := by rw [hkn]; exact ho.2.2.1
 have hs1 : sz ≤ 65536 := by rw [hsz]; exact ho.2.2.2.2.1
 have hal1 : al ≤ 268435456 := by rw [hal]; exact Nat.mul_le_mul hk1 hs1
 have R5 := Lib.hid (show RL[5]? = some (.slice (some a) k cc) by rw [hRL, hk]; rfl)
 have R1 := Lib.hid (show RL[1]? = some (iv sz) by rw [hRL, hsz]; rfl)
 have w1 : IntKind.i64.wrap ((k : Int) * (sz : Int)) = (al : Int) := by rw [← Int.natCast_mul, ← hal]; exact IntWalk.i64_in _ (by omega)
 have HI : Hid (decide (0 ≤ lba ∧ lba ≤ (al : Int) ∧ n ≤ (al : Int) - lba) = false) := Lib.hid (by
  unfold insd at hi
  rw [← hkn, ← hsz, ← hal] at hi
  exact hi)
 simp only [pZ] at hs ⊢
 rw [← hRL] at hs ⊢
 clear hRL hk hsz hal hi hkn ho
 have hq := HI.out
 simp only [decide_eq_false_iff_not] at hq
 by_cases h1 : 0 ≤ lba ∧ lba ≤ (al : Int)
 ·have HW := Lib.hid (show [lba].all (fun x => decide (0 ≤ x ∧ x ≤ (al : Int))) = true by simp; exact h1)
  have hd : decide (n ≤ (al : Int) - lba) = false := by simp; omega
  have hl1 : 0 ≤ lba := h1.1
  have hl2 : lba ≤ 268435456 := by omega
  clear HI hq h1
  go_enter Try.func37, Try.ntmps37
  go_upto_region 0 with (fail)
  refine Ch.region' 12 (fun wx => Blk wx g RL 71) (fun  | _ => false) (by kernel_rfl) (by decide +kernel) (hs.drew.hold (.blk g 71 RL) (by simp)) ?_
  replace hs := hs.drew
  generalize w.drew = w at hs ⊢
  change Ch.CW _ _ _ _ _ [0, 1, 2, 3, 4, 5, 6, 7, 8, 9, 10, 11] _ _
  iterate 12 ((first | (refine Ch.pure (v := ?_) (by rfl) (by rfl) (by rfl) (fun wx hS => ?_) ?_; rotate_left; (focus (go_simp; (first | done | with_reducible rfl)))) | refine Ch.pure (v := _) (by rfl) (by rfl) (by rfl) (fun wx hS => Se.xl rfl rfl (by rw [hS.cell]; exact R5.out) (by decide +kernel)) ?_ | refine Ch.pure (v := _) (by rfl) (by rfl) (by rfl) (fun wx hS => Se.xl rfl rfl (by rw [hS.cell]; exact R1.out) (by decide +kernel)) ?_); (try simp only [Act.put, List.setIfInBounds_toArray, List.set_cons_zero, List.set_cons_succ]))
  refine Ch.done ?_
  try simp only [List.drop_succ_cons, List.drop_zero]
  go_wp2_with (first | ((with_reducible refine Se.isL (o := ⟨some 20, _, _, _, _, _⟩) ?_); (refine Se.toL rfl (Se.bsv (o := ⟨some 20, _, _, _, _, _⟩) hs rfl Try.underlying106 inti rfl ([.int .i64 lba]) (by rfl) (by rfl) (by decide) (by decide) (by simp [Value.oneCell']) ?_); clear hs; rintro w g20 - hs)) | (go_at_call 32; refine Calls.mono (within_st (n := 1) hs 0 (al : Int) (xs := [lba]) rfl (Reads.blk 0 rfl) (by omega) (b := true) HW.out) ?_; clear hs; rintro e w ⟨rfl, hs⟩) | (go_at_call 36; refine Calls.mono (must_f hs 128 (by decide)) ?_; clear hs; rintro e w ⟨rfl, hs⟩))
  exact ⟨rfl, rfl, hs.drop⟩
 ·have HW := Lib.hid (show [lba].all (fun x => decide (0 ≤ x ∧ x ≤ (al : Int))) = false by simp; omega)
  clear HI hq h1
  go_enter Try.func37, Try.ntmps37
  go_upto_region 0 with (fail)
  refine Ch.region' 12 (fun wx => Blk wx g RL 71) (fun  | _ => false) (by kernel_rfl) (by decide +kernel) (hs.drew.hold (.blk g 71 RL) (by simp)) ?_
  replace hs := hs.drew
  generalize w.drew = w at hs ⊢
  change Ch.CW _ _ _ _ _ [0, 1, 2, 3, 4, 5, 6, 7, 8, 9, 10, 11] _ _
  iterate 12 ((first | (refine Ch.pure (v := ?_) (by rfl) (by rfl) (by rfl) (fun wx hS => ?_) ?_; rotate_left; (focus (go_simp; (first | done | with_reducible rfl)))) | refine Ch.pure (v := _) (by rfl) (by rfl) (by rfl) (fun wx hS => Se.xl rfl rfl (by rw [hS.cell]; exact R5.out) (by decide +kernel)) ?_ | refine Ch.pure (v := _) (by rfl) (by rfl) (by rfl) (fun wx hS => Se.xl rfl rfl (by rw [hS.cell]; exact R1.out) (by decide +kernel)) ?_); (try simp only [Act.put, List.setIfInBounds_toArray, List.set_cons_zero, List.set_cons_succ]))
  refine Ch.done ?_
  try simp only [List.drop_succ_cons, List.drop_zero]
  go_wp2_with (first | ((with_reducible refine Se.isL (o := ⟨some 20, _, _, _, _, _⟩) ?_); (refine Se.toL rfl (Se.bsv (o := ⟨some 20, _, _, _, _, _⟩) hs rfl Try.underlying106 inti rfl ([.int .i64 lba]) (by rfl) (by rfl) (by decide) (by decide) (by simp [Value.oneCell']) ?_); clear hs; rintro w g20 - hs)) | (go_at_call 32; refine Calls.mono (within_st (n := 1) hs 0 (al : Int) (xs := [lba]) rfl (Reads.blk 0 rfl) (by omega) (b := false) HW.out) ?_; clear hs; rintro e w ⟨rfl, hs⟩) | (go_at_call 36; refine Calls.mono (must_f hs 128 (by decide)) ?_; clear hs; rintro e w ⟨rfl, hs⟩))
  exact ⟨rfl, rfl, hs.drop⟩
theorem cnt_open_snoc (l : List Zn) (i : Nat) (h : i < l.length) : (l.take (i + 1)).countP (fun x => opn x.st) = (l.take i).countP (fun x => opn x.st) + (if opn l[i].st = true then 1 else 0) := by
 rw [List.take_add_one, List.getElem?_eq_getElem h, List.countP_append]
 simp only [Option.toList_some, List.countP_cons, List.countP_nil, Nat.zero_add]
theorem count_open {g cc : Nat} {z : Zs} {a : Addr} {r : Option Nat} (hs : St w0 X (pZ g z (some a) cc :: pL r (some a) cc z :: L) w) (ho : OkZ z) :
  Calls Try.prog 65 #[.pointer (some ⟨g, 0, none⟩), .func (.func 63) #[] #[]] w fun e w' => e = .returned (iv (cntO z.l)) ∧ St w0 X (pZ g z (some a) cc :: pL r (some a) cc z :: L) w' := by
 have CN : Hid (∀ (w : World), St w0 X (pZ g z (some a) cc :: pL r (some a) cc z :: L) w → Calls Try.prog 42 #[.pointer (some ⟨g, 0, none⟩)] w fun e w' => e = .returned (.bool false) ∧ St w0 X (pZ g z (some a) cc :: pL r (some a) cc z :: L) w') := Lib.hid (fun w hs => none_st hs (by simp))
 obtain ⟨RL, hRL⟩ : ∃ RL, RL = zcl z (some a) cc := ⟨_, rfl⟩
 obtain ⟨k, hk⟩ : ∃ n, n = z.l.length := ⟨_, rfl⟩
 have hk1 : k ≤ 4096 := by rw [hk, ho.1]; exact ho.2.2.1
 have hk0 : 0 < k := by rw [hk, ho.1]; exact ho.2.1
 have R5 := Lib.hid (show RL[5]? = some (.slice (some a) k cc) by rw [hRL, hk]; rfl)
 have HC : Hid (cntO z.l = z.l.countP (fun x => opn x.st)) := Lib.hid rfl
 obtain ⟨l, hl⟩ : ∃ l, l = z.l := ⟨_, rfl⟩
 rw [← hl] at hk HC
 have HK := Lib.hid hk
 simp only [pZ, pL] at hs CN ⊢
 rw [← hRL, ← hl, ← hk] at hs CN ⊢
 obtain ⟨n0, hn0⟩ : ∃ n0, n0 = cntO l := ⟨_, rfl⟩
 rw [← hn0] at HC ⊢
 clear hRL hk hl ho hn0
 obtain ⟨ga, oa, rfl, rfl⟩ : ∃ ga oa, a = ⟨ga, oa, none⟩ ∧ r = some ga := by
  obtain ⟨ga, oa, h1, h2⟩ := hs.own_at 1 rfl hk0
  exact ⟨ga, oa, by simpa using h1, h2⟩
 go_enter Try.func65, Try.ntmps65
 go_wp2_with (first | ((with_reducible refine Se.isL (o := ⟨some 12, _, _, _, _, _⟩) ?_); (refine Se.toL rfl (Se.ld (o := ⟨some 12, _, _, _, _, _⟩) hs rfl rfl (Cell.blk 0 rfl R5.out) (by kernel_rfl) ?_))) | (go_at_call 42; refine Calls.mono (CN.out _ hs) ?_; clear hs; rintro e w ⟨rfl, hs⟩))
 go_loopg [4, 14] k (fun gh s4 s14 wr => ∃ i m : Nat, gh = k - i ∧ i ≤ k ∧ s14 = .int .i64 (i : Int) ∧ s4 = .int .i64 (m : Int) ∧ m ≤ i ∧ Hid (m = (l.take i).countP (fun x => opn x.st)) ∧ St w0 X (.blk g 71 RL :: .own 3 (some ga) (some ⟨ga, oa, none⟩) k cc (ocs l) :: L) wr)
 case atStart => exact ⟨0, 0, rfl, Nat.zero_le _, rfl, rfl, Nat.le_refl _, Lib.hid rfl, hs⟩
 case round =>
  clear hs
  rename World => w
  obtain ⟨i, m, rfl, hi, rfl, rfl, hmi, HM, hs⟩ := hrel
  by_cases hlt : i < k
  ·have hlt' : (i : Int) < (k : Int) := by omega
   have hil : i < l.length := by have := HK.out; omega
   have HR := Lib.hid (row_at (L := .blk g 71 RL :: .own 3 (some ga) (some ⟨ga, oa, none⟩) k cc (ocs l) :: L) (Reads.own 1 rfl) hil)
   have HS := Lib.hid (cnt_open_snoc l i hil)
   obtain ⟨x, hx⟩ : ∃ x, l[i] = x := ⟨_, rfl⟩
   rw [hx] at HR HS
   obtain ⟨O, hO⟩ : ∃ O, O = oc x := ⟨_, rfl⟩
   have OL := Lib.hid (show O.length = 3 by rw [hO]; rfl)
   have OO := Lib.hid (show ∀ v ∈ O, v.oneCell' = true by rw [hO]; exact oc_one x)
   obtain ⟨b, hb⟩ : ∃ b, b = opn x.st := ⟨_, rfl⟩
   have CO : Hid (∀ (L : List At) (w : World), St w0 X L w → Calls Try.prog 63 #[.agg O.toArray] w fun e w' => e = .returned (.bool b) ∧ St w0 X L w') := Lib.hid (fun L w hs => by rw [hO, hb]; exact open_st hs x)
   rw [← hb] at HS
   rw [← hO] at HR
   clear hx hO hb hil
   cases b with
   | true =>
    go_wp2_with (first | ((with_reducible refine Se.isL (o := ⟨some 17, _, _, _, _, _⟩) ?_); (refine Se.toL rfl (Se.ldw (o := ⟨some 17, _, _, _, _, _⟩) hs rfl rfl (HR.out) ((by rw [OL.out]; kernel_rfl)) (by kernel_rfl) ?_))) | ((with_reducible refine Se.isL (o := ⟨some 6, _, _, _, _, _⟩) ?_); (refine Se.toL rfl (Se.al (o := ⟨some 6, _, _, _, _, _⟩) hs rfl (zOne) ?_); clear hs; rintro w g6 - hs)) | ((with_reducible refine Se.isL (o := ⟨none, _, _, _, _, _⟩) ?_); (refine Se.toL rfl (Se.sow 0 hs rfl rfl rfl rfl (OO.out) ((by rw [OL.out]; kernel_rfl)) ((by rw [OL.out]; rfl)) ?_); clear hs; intro w hs; try simp only [List.cons_append, List.nil_append, List.set_cons_zero] at hs)) | ((with_reducible refine Se.isL (o := ⟨some 19, _, _, _, _, _⟩) ?_); (refine Se.toL rfl (Se.ldw (o := ⟨some 19, _, _, _, _, _⟩) hs rfl rfl ((Reads.blk 0 rfl)) ((by rw [OL.out]; kernel_rfl)) (by kernel_rfl) ?_))) | (go_at_call 63; refine Calls.mono (CO.out _ _ hs) ?_; clear hs; rintro e w ⟨rfl, hs⟩))
    go_roundg (k - (i + 1))
    case measure => omega
    case rel => exact ⟨i + 1, m + 1, rfl, by omega, by go_num, by go_num, by omega, Lib.hid (by rw [HS.out, HM.out]; rfl), hs.drop⟩
   | false =>
    go_wp2_with (first | ((with_reducible refine Se.isL (o := ⟨some 17, _, _, _, _, _⟩) ?_); (refine Se.toL rfl (Se.ldw (o := ⟨some 17, _, _, _, _, _⟩) hs rfl rfl (HR.out) ((by rw [OL.out]; kernel_rfl)) (by kernel_rfl) ?_))) | ((with_reducible refine Se.isL (o := ⟨some 6, _, _, _, _, _⟩) ?_); (refine Se.toL rfl (Se.al (o := ⟨some 6, _, _, _, _, _⟩) hs rfl (zOne) ?_); clear hs; rintro w g6 - hs)) | ((with_reducible refine Se.isL (o := ⟨none, _, _, _, _, _⟩) ?_); (refine Se.toL rfl (Se.sow 0 hs rfl rfl rfl rfl (OO.out) ((by rw [OL.out]; kernel_rfl)) ((by rw [OL.out]; rfl)) ?_); clear hs; intro w hs; try simp only [List.cons_append, List.nil_append, List.set_cons_zero] at hs)) | ((with_reducible refine Se.isL (o := ⟨some 19, _, _, _, _, _⟩) ?_); (refine Se.toL rfl (Se.ldw (o := ⟨some 19, _, _, _, _, _⟩) hs rfl rfl ((Reads.blk 0 rfl)) ((by rw [OL.out]; kernel_rfl)) (by kernel_rfl) ?_))) | (go_at_call 63; refine Calls.mono (CO.out _ _ hs) ?_; clear hs; rintro e w ⟨rfl, hs⟩))
    go_roundg (k - (i + 1))
    case measure => omega
    case rel => exact ⟨i + 1, m, rfl, by omega, by go_num, rfl, by omega, Lib.hid (by rw [HS.out, HM.out]; rfl), hs.drop⟩
  ·obtain rfl : i = k := by omega
   have HE := Lib.hid (show m = n0 by rw [HM.out, HC.out, HK.out, List.take_length])
   go_wp2_with fail
   go_ret
   exact ⟨by rw [← HE.out]; rfl, hs⟩
theorem openN_st {g cc : Nat} {z : Zs} {a : Addr} {r : Option Nat} (hs : St w0 X (pZ g z (some a) cc :: pL r (some a) cc z :: L) w) (ho : OkZ z) :
  Calls Try.prog 30 #[.pointer (some ⟨g, 0, none⟩)] w fun e w' => e = .returned (iv (cntO z.l)) ∧ St w0 X (pZ g z (some a) cc :: pL r (some a) cc z :: L) w' := by
 have CC : Hid (∀ (w : World), St w0 X (pZ g z (some a) cc :: pL r (some a) cc z :: L) w → Calls Try.prog 65 #[.pointer (some ⟨g, 0, none⟩), .func (.func 63) #[] #[]] w fun e w' => e = .returned (iv (cntO z.l)) ∧ St w0 X (pZ g z (some a) cc :: pL r (some a) cc z :: L) w') := Lib.hid (fun w hs => count_open hs ho)
 clear ho
 go_enter Try.func30, Try.ntmps30
 go_wp2_with (first | (go_at_call 65; refine Calls.mono (CC.out _ hs) ?_; clear hs; rintro e w ⟨rfl, hs⟩))
 go_ret
 exact ⟨rfl, hs⟩
theorem cnt_active_snoc (l : List Zn) (i : Nat) (h : i < l.length) : (l.take (i + 1)).countP (fun x => atv x.st) = (l.take i).countP (fun x => atv x.st) + (if atv l[i].st = true then 1 else 0) := by
 rw [List.take_add_one, List.getElem?_eq_getElem h, List.countP_append]
 simp only [Option.toList_some, List.countP_cons, List.countP_nil, Nat.zero_add]
theorem count_active {g cc : Nat} {z : Zs} {a : Addr} {r : Option Nat} (hs : St w0 X (pZ g z (some a) cc :: pL r (some a) cc z :: L) w) (ho : OkZ z) :
  Calls Try.prog 65 #[.pointer (some ⟨g, 0, none⟩), .func (.func 66) #[] #[]] w fun e w' => e = .returned (iv (cntA z.l)) ∧ St w0 X (pZ g z (some a) cc :: pL r (some a) cc z :: L) w' := by
 have CN : Hid (∀ (w : World), St w0 X (pZ g z (some a) cc :: pL r (some a) cc z :: L) w → Calls Try.prog 42 #[.pointer (some ⟨g, 0, none⟩)] w fun e w' => e = .returned (.bool false) ∧ St w0 X (pZ g z (some a) cc :: pL r (some a) cc z :: L) w') := Lib.hid (fun w hs => none_st hs (by simp))
 obtain ⟨RL, hRL⟩ : ∃ RL, RL = zcl z (some a) cc := ⟨_, rfl⟩
 obtain ⟨k, hk⟩ : ∃ n, n = z.l.length := ⟨_, rfl⟩
 have hk1 : k ≤ 4096 := by rw [hk, ho.1]; exact ho.2.2.1
 have hk0 : 0 < k := by rw [hk, ho.1]; exact ho.2.1
 have R5 := Lib.hid (show RL[5]? = some (.slice (some a) k cc) by rw [hRL, hk]; rfl)
 have HC : Hid (cntA z.l = z.l.countP (fun x => atv x.st)) := Lib.hid rfl
 obtain ⟨l, hl⟩ : ∃ l, l = z.l := ⟨_, rfl⟩
 rw [← hl] at hk HC
 have HK := Lib.hid hk
 simp only [pZ, pL] at hs CN ⊢
 rw [← hRL, ← hl, ← hk] at hs CN ⊢
 obtain ⟨n0, hn0⟩ : ∃ n0, n0 = cntA l := ⟨_, rfl⟩
 rw [← hn0] at HC ⊢
 clear hRL hk hl ho hn0
 obtain ⟨ga, oa, rfl, rfl⟩ : ∃ ga oa, a = ⟨ga, oa, none⟩ ∧ r = some ga := by
  obtain ⟨ga, oa, h1, h2⟩ := hs.own_at 1 rfl hk0
  exact ⟨ga, oa, by simpa using h1, h2⟩
 go_enter Try.func65, Try.ntmps65
 go_wp2_with (first | ((with_reducible refine Se.isL (o := ⟨some 12, _, _, _, _, _⟩) ?_); (refine Se.toL rfl (Se.ld (o := ⟨some 12, _, _, _, _, _⟩) hs rfl rfl (Cell.blk 0 rfl R5.out) (by kernel_rfl) ?_))) | (go_at_call 42; refine Calls.mono (CN.out _ hs) ?_; clear hs; rintro e w ⟨rfl, hs⟩))
 go_loopg [4, 14] k (fun gh s4 s14 wr => ∃ i m : Nat, gh = k - i ∧ i ≤ k ∧ s14 = .int .i64 (i : Int) ∧ s4 = .int .i64 (m : Int) ∧ m ≤ i ∧ Hid (m = (l.take i).countP (fun x => atv x.st)) ∧ St w0 X (.blk g 71 RL :: .own 3 (some ga) (some ⟨ga, oa, none⟩) k cc (ocs l) :: L) wr)
 case atStart => exact ⟨0, 0, rfl, Nat.zero_le _, rfl, rfl, Nat.le_refl _, Lib.hid rfl, hs⟩
 case round =>
  clear hs
  rename World => w
  obtain ⟨i, m, rfl, hi, rfl, rfl, hmi, HM, hs⟩ := hrel
  by_cases hlt : i < k
  ·have hlt' : (i : Int) < (k : Int) := by omega
   have hil : i < l.length := by have := HK.out; omega
   have HR := Lib.hid (row_at (L := .blk g 71 RL :: .own 3 (some ga) (some ⟨ga, oa, none⟩) k cc (ocs l) :: L) (Reads.own 1 rfl) hil)
   have HS := Lib.hid (cnt_active_snoc l i hil)
   obtain ⟨x, hx⟩ : ∃ x, l[i] = x := ⟨_, rfl⟩
   rw [hx] at HR HS
   obtain ⟨O, hO⟩ : ∃ O, O = oc x := ⟨_, rfl⟩
   have OL := Lib.hid (show O.length = 3 by rw [hO]; rfl)
   have OO := Lib.hid (show ∀ v ∈ O, v.oneCell' = true by rw [hO]; exact oc_one x)
   obtain ⟨b, hb⟩ : ∃ b, b = atv x.st := ⟨_, rfl⟩
   have CO : Hid (∀ (L : List At) (w : World), St w0 X L w → Calls Try.prog 66 #[.agg O.toArray] w fun e w' => e = .returned (.bool b) ∧ St w0 X L w') := Lib.hid (fun L w hs => by rw [hO, hb]; exact active_st hs x)
   rw [← hb] at HS
   rw [← hO] at HR
   clear hx hO hb hil
   cases b with
   | true =>
    go_wp2_with (first | ((with_reducible refine Se.isL (o := ⟨some 17, _, _, _, _, _⟩) ?_); (refine Se.toL rfl (Se.ldw (o := ⟨some 17, _, _, _, _, _⟩) hs rfl rfl (HR.out) ((by rw [OL.out]; kernel_rfl)) (by kernel_rfl) ?_))) | ((with_reducible refine Se.isL (o := ⟨some 6, _, _, _, _, _⟩) ?_); (refine Se.toL rfl (Se.al (o := ⟨some 6, _, _, _, _, _⟩) hs rfl (zOne) ?_); clear hs; rintro w g6 - hs)) | ((with_reducible refine Se.isL (o := ⟨none, _, _, _, _, _⟩) ?_); (refine Se.toL rfl (Se.sow 0 hs rfl rfl rfl rfl (OO.out) ((by rw [OL.out]; kernel_rfl)) ((by rw [OL.out]; rfl)) ?_); clear hs; intro w hs; try simp only [List.cons_append, List.nil_append, List.set_cons_zero] at hs)) | ((with_reducible refine Se.isL (o := ⟨some 19, _, _, _, _, _⟩) ?_); (refine Se.toL rfl (Se.ldw (o := ⟨some 19, _, _, _, _, _⟩) hs rfl rfl ((Reads.blk 0 rfl)) ((by rw [OL.out]; kernel_rfl)) (by kernel_rfl) ?_))) | (go_at_call 66; refine Calls.mono (CO.out _ _ hs) ?_; clear hs; rintro e w ⟨rfl, hs⟩))
    go_roundg (k - (i + 1))
    case measure => omega
    case rel => exact ⟨i + 1, m + 1, rfl, by omega, by go_num, by go_num, by omega, Lib.hid (by rw [HS.out, HM.out]; rfl), hs.drop⟩
   | false =>
    go_wp2_with (first | ((with_reducible refine Se.isL (o := ⟨some 17, _, _, _, _, _⟩) ?_); (refine Se.toL rfl (Se.ldw (o := ⟨some 17, _, _, _, _, _⟩) hs rfl rfl (HR.out) ((by rw [OL.out]; kernel_rfl)) (by kernel_rfl) ?_))) | ((with_reducible refine Se.isL (o := ⟨some 6, _, _, _, _, _⟩) ?_); (refine Se.toL rfl (Se.al (o := ⟨some 6, _, _, _, _, _⟩) hs rfl (zOne) ?_); clear hs; rintro w g6 - hs)) | ((with_reducible refine Se.isL (o := ⟨none, _, _, _, _, _⟩) ?_); (refine Se.toL rfl (Se.sow 0 hs rfl rfl rfl rfl (OO.out) ((by rw [OL.out]; kernel_rfl)) ((by rw [OL.out]; rfl)) ?_); clear hs; intro w hs; try simp only [List.cons_append, List.nil_append, List.set_cons_zero] at hs)) | ((with_reducible refine Se.isL (o := ⟨some 19, _, _, _, _, _⟩) ?_); (refine Se.toL rfl (Se.ldw (o := ⟨some 19, _, _, _, _, _⟩) hs rfl rfl ((Reads.blk 0 rfl)) ((by rw [OL.out]; kernel_rfl)) (by kernel_rfl) ?_))) | (go_at_call 66; refine Calls.mono (CO.out _ _ hs) ?_; clear hs; rintro e w ⟨rfl, hs⟩))
    go_roundg (k - (i + 1))
    case measure => omega
    case rel => exact ⟨i + 1, m, rfl, by omega, by go_num, rfl, by omega, Lib.hid (by rw [HS.out, HM.out]; rfl), hs.drop⟩
  ·obtain rfl : i = k := by omega
   have HE := Lib.hid (show m = n0 by rw [HM.out, HC.out, HK.out, List.take_length])
   go_wp2_with fail
   go_ret
   exact ⟨by rw [← HE.out]; rfl, hs⟩
theorem activeN_st {g cc : Nat} {z : Zs} {a : Addr} {r : Option Nat} (hs : St w0 X (pZ g z (some a) cc :: pL r (some a) cc z :: L) w) (ho : OkZ z) :
  Calls Try.prog 31 #[.pointer (some ⟨g, 0, none⟩)] w fun e w' => e = .returned (iv (cntA z.l)) ∧ St w0 X (pZ g z (some a) cc :: pL r (some a) cc z :: L) w' := by
 have CC : Hid (∀ (w : World), St w0 X (pZ g z (some a) cc :: pL r (some a) cc z :: L) w → Calls Try.prog 65 #[.pointer (some ⟨g, 0, none⟩), .func (.func 66) #[] #[]] w fun e w' => e = .returned (iv (cntA z.l)) ∧ St w0 X (pZ g z (some a) cc :: pL r (some a) cc z :: L) w') := Lib.hid (fun w hs => count_active hs ho)
 clear ho
 go_enter Try.func31, Try.ntmps31
 go_wp2_with (first | (go_at_call 65; refine Calls.mono (CC.out _ hs) ?_; clear hs; rintro e w ⟨rfl, hs⟩))
 go_ret
 exact ⟨rfl, hs⟩
end Zo
end Go.Proofs.Ythpgkkfahiglnaa


/- Layer 28: actions on a zone. No condition but Go's own limits. Printed by wip/gen_zoneacts.py. -/
import Derived.Test.YthpgkkfahiglnaaZoneWrite
set_option maxRecDepth 100000
set_option maxHeartbeats 4000000
set_option linter.unusedSimpArgs false
set_option linter.unusedVariables false
namespace Go.Proofs.Ythpgkkfahiglnaa
open Go Go.RowKit
namespace Zo
open Se (St At Reads Cell)
open Li (Rd Blk Fr)
variable {w0 w : World} {X : List Nat} {L : List At}
attribute [local irreducible] Calls
attribute [local go_sem] eql_nil
theorem actE_x {z : Zs} {i a : Nat} {x : Zn} {st : Nat} (h : x = z.l.getD i dz) (h2 : st = x.st) : actE z i a = (
 if a = 5 then if st = 13 ∨ st = 15 then (putS z i { x with st := 15 }, 0) else (z, 191) else
 if st = 13 ∨ st = 15 ∨ st = 14 ∧ (a = 1 ∨ a = 3) ∨ st = 1 ∧ a = 1 then (z, 191) else
 if a = 3 then if opn st = true then (putS z i { x with st := 3 }, 0) else if (opensE z i).2 = 0 then (putS (opensE z i).1 i { x with st := 3 }, 0) else (z, (opensE z i).2) else
 if a = 1 then (putS z i (closeZ x), 0) else
 if a = 2 then (putS z i { x with st := 14, p := z.c.cap }, 0) else
 (putS z i { x with st := 1, p := 0 }, 0)) := by subst h2; subst h; rfl
theorem ocs_row_set (l : List Zn) : ∀ (i : Nat) (_ : i < l.length) (x : Zn), (ocs l).take (i * 3) ++ oc x ++ (ocs l).drop (i * 3 + 3) = ocs (l.set i x) := by
 induction l with
 | nil => intro i h; simp at h
 | cons y l ih =>
  intro i h x
  cases i with
  | zero => rfl
  | succ i =>
   have e : (i + 1) * 3 = (oc y).length + i * 3 := by show (i + 1) * 3 = 3 + i * 3; omega
   have e2 : (i + 1) * 3 + 3 = (oc y).length + (i * 3 + 3) := by show (i + 1) * 3 + 3 = 3 + (i * 3 + 3); omega
   show (oc y ++ ocs l).take ((i + 1) * 3) ++ oc x ++ (oc y ++ ocs l).drop ((i + 1) * 3 + 3) = oc y ++ ocs (l.set i x)
   rw [e2, e, List.take_length_add_append, List.drop_length_add_append, ← ih i (by simpa using h) x]
   simp
theorem zsi : (Try.prog.info? 35).map (fun i => (i.zero, i.size)) = some (some (.int .i64 0), 1) := by kernel_rfl
theorem index_st (hs : St w0 X L w) {sl : List Int} {A : Option Addr} {n c : Nat} (hn : n = sl.length) (hA : Reads L A (ints sl)) (hle : n ≤ 70368744177664) (s : Int) :
  Calls Try.prog 86 #[.slice A n c, .int .i64 s] w fun e w' => ∃ k : Int, e = .returned (.int .i64 k) ∧ Hid (decide (0 ≤ k) = sl.contains s) ∧ St w0 X L w' := by
 have HN := Lib.hid hn
 have HA := Lib.hid hA
 clear hn hA
 go_enter Try.func86, Try.ntmps86
 go_wp2_with fail
 go_loopg [8] n (fun gh s8 wr => ∃ i : Nat, gh = n - i ∧ i ≤ n ∧ s8 = .int .i64 (i : Int) ∧ Hid ((sl.take i).contains s = false) ∧ St w0 X L wr)
 case atStart => exact ⟨0, rfl, Nat.zero_le _, rfl, Lib.hid rfl, hs⟩
 case round =>
  clear hs
  rename World => w
  obtain ⟨i, rfl, hi0, rfl, HT, hs⟩ := hrel
  by_cases hlt : i < n
  ·have hlt' : (i : Int) < (n : Int) := by omega
   have hil : i < sl.length := by have := HN.out; omega
   have hx : (ints sl)[i]? = some (.int .i64 sl[i]) := by simp [ints, hil]
   obtain ⟨g, o, rfl, _, _⟩ := (HA.out w hs.hold).cells (by intro h0; rw [h0] at hx; simp at hx)
   have HC := Lib.hid (HA.out.cell i hx)
   have HS := Lib.hid (show (sl.take (i + 1)).contains s = ((sl.take i).contains s || (s == sl[i])) by rw [List.take_add_one, List.getElem?_eq_getElem hil, List.contains_eq_any_beq, List.contains_eq_any_beq, List.any_append]; simp)
   have HM := Lib.hid (show (s == sl[i]) = true → sl.contains s = true from fun h => by rw [eq_of_beq h]; exact List.contains_iff_mem.2 (List.getElem_mem hil))
   obtain ⟨x, hx2⟩ : ∃ x, x = sl[i] := ⟨_, rfl⟩
   rw [← hx2] at HC HS HM
   cases hb : (s == x) with
   | true =>
    have HM2 := Lib.hid (HM.out hb)
    clear hx hx2 hil HM HS HT
    go_wp2_with (first | ((with_reducible refine Se.isL (o := ⟨some 15, _, _, _, _, _⟩) ?_); (refine Se.toL rfl (Se.ld (o := ⟨some 15, _, _, _, _, _⟩) hs rfl rfl (HC.out) (by kernel_rfl) ?_))))
    go_ret
    exact ⟨i, rfl, Lib.hid (by rw [HM2.out]; simp), hs⟩
   | false =>
    have HM2 := Lib.hid (show (sl.take (i + 1)).contains s = false by rw [HS.out, HT.out, hb]; rfl)
    clear hx hx2 hil HM HS HT
    go_wp2_with (first | ((with_reducible refine Se.isL (o := ⟨some 15, _, _, _, _, _⟩) ?_); (refine Se.toL rfl (Se.ld (o := ⟨some 15, _, _, _, _, _⟩) hs rfl rfl (HC.out) (by kernel_rfl) ?_))))
    go_roundg (n - (i + 1))
    case measure => omega
    case rel => exact ⟨i + 1, rfl, by omega, by go_num, HM2, hs⟩
  ·obtain rfl : i = n := by omega
   have HF := Lib.hid (show sl.contains s = false by have h := HT.out; rw [HN.out, List.take_length] at h; exact h)
   clear HT
   go_wp2_with fail
   go_ret
   exact ⟨-1, rfl, Lib.hid (by rw [HF.out]; rfl), hs⟩
theorem has_st (hs : St w0 X L w) {sl : List Int} {A : Option Addr} {n c : Nat} (hn : n = sl.length) (hA : Reads L A (ints sl)) (hle : n ≤ 70368744177664) (s : Int) {b : Bool} (hb : sl.contains s = b) :
  Calls Try.prog 57 #[.slice A n c, .int .i64 s] w fun e w' => e = .returned (.bool b) ∧ St w0 X L w' := by
 have CX : Hid (∀ (w : World), St w0 X L w → Calls Try.prog 86 #[.slice A n c, .int .i64 s] w fun e w' => ∃ k : Int, e = .returned (.int .i64 k) ∧ Hid (decide (0 ≤ k) = b) ∧ St w0 X L w') := Lib.hid (fun w hs => by
  have h := index_st hs hn hA hle s (c := c)
  rwa [hb] at h)
 clear hn hA hle hb
 go_enter Try.func57, Try.ntmps57
 go_wp2_with (first | (go_at_call 86; refine Calls.mono (CX.out _ hs) ?_; clear hs; rintro e w ⟨k, rfl, HK, hs⟩))
 have hk := HK.out
 go_ret
 exact ⟨by simp_all, hs⟩
theorem from_ok (hs : St w0 X L w) {sl : List Int} {A : Option Addr} {n c g ga oa k cc i st : Nat} (hZ : Cell L g 5 (.slice (some ⟨ga, oa, none⟩) k cc)) (hC : Cell L ga (oa + i * 3) (iv st)) (hi : i < k) (hn : n = sl.length) (hA : Reads L A (ints sl)) (hle : n ≤ 64) (hb : sl.contains (st : Int) = true) :
  Calls Try.prog 90 #[.pointer (some ⟨g, 0, none⟩), .int .i64 (i : Int), .slice A n c] w fun e w' => e = .returned (.tuple #[]) ∧ St w0 X L w' := by
 have CX : Hid (∀ (w : World), St w0 X L w → Calls Try.prog 57 #[.slice A n c, .int .i64 (st : Int)] w fun e w' => e = .returned (.bool true) ∧ St w0 X L w') := Lib.hid (fun w hs => has_st hs hn hA (by omega) _ hb)
 have HZ := Lib.hid hZ
 have HC := Lib.hid hC
 have hi' : (i : Int) < (k : Int) := by omega
 clear hn hA hle hb hZ hC hi
 go_enter Try.func90, Try.ntmps90
 go_wp2_with (first | ((with_reducible refine Se.isL (o := ⟨some 10, _, _, _, _, _⟩) ?_); (refine Se.toL rfl (Se.ld (o := ⟨some 10, _, _, _, _, _⟩) hs rfl rfl (HZ.out) (by kernel_rfl) ?_))) | ((with_reducible refine Se.isL (o := ⟨some 14, _, _, _, _, _⟩) ?_); (refine Se.toL rfl (Se.ld (o := ⟨some 14, _, _, _, _, _⟩) hs rfl rfl (HC.out) (by kernel_rfl) ?_))) | (go_at_call 57; refine Calls.mono (CX.out _ hs) ?_; clear hs; rintro e w ⟨rfl, hs⟩) | (go_at_call 36; refine Calls.mono (must_t hs 191) ?_; clear hs; rintro e w ⟨rfl, hs⟩))
 go_end0
 first | exact ⟨rfl, hs⟩ | exact hs
theorem from_bad (hs : St w0 X L w) {sl : List Int} {A : Option Addr} {n c g ga oa k cc i st : Nat} (hZ : Cell L g 5 (.slice (some ⟨ga, oa, none⟩) k cc)) (hC : Cell L ga (oa + i * 3) (iv st)) (hi : i < k) (hn : n = sl.length) (hA : Reads L A (ints sl)) (hle : n ≤ 64) (hb : sl.contains (st : Int) = false) :
  Calls Try.prog 90 #[.pointer (some ⟨g, 0, none⟩), .int .i64 (i : Int), .slice A n c] w fun e w' => e = .panicked (chS 191) ∧ St w0 X L w' := by
 have CX : Hid (∀ (w : World), St w0 X L w → Calls Try.prog 57 #[.slice A n c, .int .i64 (st : Int)] w fun e w' => e = .returned (.bool false) ∧ St w0 X L w') := Lib.hid (fun w hs => has_st hs hn hA (by omega) _ hb)
 have HZ := Lib.hid hZ
 have HC := Lib.hid hC
 have hi' : (i : Int) < (k : Int) := by omega
 clear hn hA hle hb hZ hC hi
 go_enter Try.func90, Try.ntmps90
 go_wp2_with (first | ((with_reducible refine Se.isL (o := ⟨some 10, _, _, _, _, _⟩) ?_); (refine Se.toL rfl (Se.ld (o := ⟨some 10, _, _, _, _, _⟩) hs rfl rfl (HZ.out) (by kernel_rfl) ?_))) | ((with_reducible refine Se.isL (o := ⟨some 14, _, _, _, _, _⟩) ?_); (refine Se.toL rfl (Se.ld (o := ⟨some 14, _, _, _, _, _⟩) hs rfl rfl (HC.out) (by kernel_rfl) ?_))) | (go_at_call 57; refine Calls.mono (CX.out _ hs) ?_; clear hs; rintro e w ⟨rfl, hs⟩) | (go_at_call 36; refine Calls.mono (must_f hs 191 (by decide)) ?_; clear hs; rintro e w ⟨rfl, hs⟩))
 exact ⟨rfl, rfl, hs⟩
theorem drop_st {g cc : Nat} {z : Zs} {a : Addr} {r : Option Nat} (hs : St w0 X (pZ g z (some a) cc :: pL r (some a) cc z :: L) w) (ho : OkZ z) {i : Nat} (hi : i < z.l.length) :
  Calls Try.prog 77 #[.pointer (some ⟨g, 0, none⟩), .int .i64 (i : Int)] w fun e' w' => True ∧ ER w0 X L g cc a r (actE z i 5) e' w' := by
 obtain ⟨ga, oa, ha, hr⟩ := hs.own_at 1 rfl (by omega)
 obtain rfl : a = ⟨ga, oa, none⟩ := by simpa using ha
 subst hr
 clear ha
 obtain ⟨RL, hRL⟩ : ∃ RL, RL = zcl z (some ⟨ga, oa, none⟩) cc := ⟨_, rfl⟩
 obtain ⟨k, hk⟩ : ∃ n, n = z.l.length := ⟨_, rfl⟩
 have hk1 : k ≤ 4096 := by rw [hk, ho.1]; exact ho.2.2.1
 obtain ⟨l, hl⟩ : ∃ l, l = z.l := ⟨_, rfl⟩
 obtain ⟨x, hx⟩ : ∃ x, x = l.getD i dz := ⟨_, rfl⟩
 obtain ⟨st, hst⟩ : ∃ p, p = x.st := ⟨_, rfl⟩
 obtain ⟨cap, hcap⟩ : ∃ n, n = z.c.cap := ⟨_, rfl⟩
 have R5 := Lib.hid (show RL[5]? = some (.slice (some ⟨ga, oa, none⟩) k cc) by rw [hRL, hk]; rfl)
 have R2 := Lib.hid (show RL[2]? = some (iv cap) by rw [hRL, hcap]; rfl)
 have e1 : pZ g z (some ⟨ga, oa, none⟩) cc = .blk g 71 RL := by rw [hRL]
 have e2 : pL (some ga) (some ⟨ga, oa, none⟩) cc z = .own 3 (some ga) (some ⟨ga, oa, none⟩) k cc (ocs l) := by unfold pL; rw [← hk, ← hl]
 have hil : i < l.length := by rw [hl]; exact hi
 have hxg : x = l[i] := by rw [hx]; exact getD_get hil
 have hso := ho.2.2.2.2.2.2.2.2.2 _ (getD_mem hi)
 rw [← hl, ← hx, ← hst] at hso
 have CZ : Hid (∀ (M : List At), Cell (M ++ (.blk g 71 RL :: .own 3 (some ga) (some ⟨ga, oa, none⟩) k cc (ocs l) :: L)) g 5 (.slice (some ⟨ga, oa, none⟩) k cc)) := Lib.hid (fun M => capp M (Cell.blk 0 rfl R5.out))
 have CS : Hid (∀ (M : List At), Cell (M ++ (.blk g 71 RL :: .own 3 (some ga) (some ⟨ga, oa, none⟩) k cc (ocs l) :: L)) ga (oa + i * 3) (iv st)) := Lib.hid (fun M => capp M (by
  have h := ocs_at l i hil 0 (by decide)
  rw [Nat.add_zero] at h
  exact (Reads.own 1 rfl : Reads (.blk g 71 RL :: .own 3 (some ga) (some ⟨ga, oa, none⟩) k cc (ocs l) :: L) _ _).cell (i * 3) (v := iv st) (by rw [h, hst, hxg]; rfl)))
 have HR : Hid (Reads (.blk g 71 RL :: .own 3 (some ga) (some ⟨ga, oa, none⟩) k cc (ocs l) :: L) (some ⟨ga, oa + i * 3, none⟩) (oc x)) := Lib.hid (by
  have h := row_at (L := (.blk g 71 RL :: .own 3 (some ga) (some ⟨ga, oa, none⟩) k cc (ocs l) :: L)) (Reads.own 1 rfl) hil
  rw [hxg]; exact h)
 have hik : (i : Int) < (k : Int) := by omega
 have HIK := Lib.hid (show i < k by omega)
 have HIL := Lib.hid hil
 have HKL := Lib.hid (show l.length = k by rw [hl, hk])
 have LE0 := Lib.hid (show i * 3 < (ocs l).length by rw [ocs_len]; omega)
 have LE1 := Lib.hid (show i * 3 + 1 < (ocs l).length by rw [ocs_len]; omega)
 have E12 := Lib.hid (And.intro e1 e2)
 have HX := Lib.hid (show x = z.l.getD i dz by rw [hx, hl])
 have HST := Lib.hid hst
 have BAD : Hid (actE z i 5 = (z, 191) → ∀ (w : World), St w0 X (.blk g 71 RL :: .own 3 (some ga) (some ⟨ga, oa, none⟩) k cc (ocs l) :: L) w → ER w0 X L g cc ⟨ga, oa, none⟩ (some ga) (actE z i 5) (.panicked (chS 191)) w) := Lib.hid (fun he w hs => by
  rw [← e1, ← e2] at hs
  exact .inr (by rw [he]; exact ⟨(show (191 : Nat) ≠ 0 by decide), rfl, z, hs⟩))
 have FIN : Hid (∀ (x' : Zn), actE z i 5 = (putS z i x', 0) → ∀ (w : World), St w0 X (.blk g 71 RL :: .own 3 (some ga) (some ⟨ga, oa, none⟩) k cc (ocs (l.set i x')) :: L) w → ER w0 X L g cc ⟨ga, oa, none⟩ (some ga) (actE z i 5) (.returned (.tuple #[])) w) := Lib.hid (fun x' he w hs => by
  rw [he]
  refine .inl ⟨rfl, rfl, ?_⟩
  rw [pZ_putS, e1]
  unfold pL putS
  dsimp only
  rw [List.length_set, ← hk, ← hl]
  exact hs)
 have HO := Lib.hid ho
 have HI := Lib.hid hi
 rw [e1, e2] at hs
 have HXG := Lib.hid (show x = l.getD i dz from hx)
 clear hxg
 clear hRL hk hl hx hcap e1 e2 ho hi hil
 cases hb : ([13,15] : List Int).contains (st : Int) with
 | false =>
  have HB := Lib.hid hb
  have HE := Lib.hid (BAD.out (by
   simp only [List.contains_cons, List.contains_nil, Bool.or_false, Bool.or_eq_false_iff, beq_eq_false_iff_ne] at hb
   rw [actE_x HX.out HST.out]
   rw [if_pos rfl, if_neg (by omega)]))
  clear BAD FIN hso hb hst
  go_enter Try.func77, Try.ntmps77
  go_wp2_with (first | ((with_reducible refine Se.isL (o := ⟨some 6, _, _, _, _, _⟩) ?_); (refine Se.toL rfl (Se.bsv (o := ⟨some 6, _, _, _, _, _⟩) hs rfl Try.underlying59 zsi rfl ([.int .i64 13, .int .i64 15]) (by rfl) (by rfl) (by decide) (by decide) (by simp [Value.oneCell']) ?_); clear hs; rintro w g6 - hs)) | (go_at_call 90; refine Calls.mono (from_bad hs (CZ.out [_]) (CS.out [_]) HIK.out rfl (Reads.blk 0 rfl) (by decide) HB.out) ?_; clear hs; rintro e w ⟨rfl, hs⟩))
  exact ⟨rfl, trivial, HE.out _ hs.drop⟩
 | true =>
  have HB := Lib.hid hb
  have HCA : Hid (st = 13 ∨ st = 15) := Lib.hid (by
   simp only [List.contains_cons, List.contains_nil, Bool.or_false, Bool.or_eq_true, beq_iff_eq] at hb
   omega)
  have HE := Lib.hid (FIN.out { x with st := 15 } (by rw [actE_x HX.out HST.out, if_pos rfl, if_pos HCA.out]))
  have CE : Hid ((ocs l).set (i * 3) (.int .i64 15) = ocs (l.set i { x with st := 15 })) := Lib.hid (by rw [HXG.out]; exact ocs_set l i HIL.out 15)
  clear BAD FIN hso hb hst
  go_enter Try.func77, Try.ntmps77
  go_upto_region 1 with (first | ((with_reducible refine Se.isL (o := ⟨some 6, _, _, _, _, _⟩) ?_); (refine Se.toL rfl (Se.bsv (o := ⟨some 6, _, _, _, _, _⟩) hs rfl Try.underlying59 zsi rfl ([.int .i64 13, .int .i64 15]) (by rfl) (by rfl) (by decide) (by decide) (by simp [Value.oneCell']) ?_); clear hs; rintro w g6 - hs)) | (go_at_call 90; refine Calls.mono (from_ok hs (CZ.out [_]) (CS.out [_]) HIK.out rfl (Reads.blk 0 rfl) (by decide) HB.out) ?_; clear hs; rintro e w ⟨rfl, hs⟩))
  replace hs := hs.drop
  go_wp2_with (first | ((with_reducible refine Se.isL (o := ⟨some 11, _, _, _, _, _⟩) ?_); (refine Se.toL rfl (Se.ld (o := ⟨some 11, _, _, _, _, _⟩) hs rfl rfl (Cell.blk 0 rfl R5.out) (by kernel_rfl) ?_))) | ((with_reducible refine Se.isL (o := ⟨none, _, _, _, _, _⟩) ?_); ((first | refine Se.toL rfl (Se.soo 1 (v := .int _ _) hs rfl rfl rfl rfl rfl (by kernel_rfl) (LE0.out) ?_) | refine Se.toL rfl (Se.soo 1 (v := .bool _) hs rfl rfl rfl rfl rfl (by kernel_rfl) (LE0.out) ?_) | refine Se.toL rfl (Se.soo 1 (v := .slice _ _ _) hs rfl rfl rfl rfl rfl (by kernel_rfl) (LE0.out) ?_) | refine Se.toL rfl (Se.soo 1 (v := .pointer _) hs rfl rfl rfl rfl rfl (by kernel_rfl) (LE0.out) ?_) | refine Se.toL rfl (Se.soo 1 (v := .string _) hs rfl rfl rfl rfl rfl (by kernel_rfl) (LE0.out) ?_) | refine Se.toL rfl (Se.soo 1 (v := .map _) hs rfl rfl rfl rfl rfl (by kernel_rfl) (LE0.out) ?_) | refine Se.toL rfl (Se.soo 1 (v := .func _ _ _) hs rfl rfl rfl rfl rfl (by kernel_rfl) (LE0.out) ?_) | refine Se.toL rfl (Se.soo 1 (v := .nilFunc) hs rfl rfl rfl rfl rfl (by kernel_rfl) (LE0.out) ?_)); clear hs; intro w hs; try simp only [List.cons_append, List.nil_append, List.set_cons_zero, List.set_cons_succ] at hs)))
  go_end0
  rw [CE.out] at hs
  first | exact HE.out _ hs | exact ⟨trivial, HE.out _ hs⟩
theorem reset_st {g cc : Nat} {z : Zs} {a : Addr} {r : Option Nat} (hs : St w0 X (pZ g z (some a) cc :: pL r (some a) cc z :: L) w) (ho : OkZ z) {i : Nat} (hi : i < z.l.length) :
  Calls Try.prog 76 #[.pointer (some ⟨g, 0, none⟩), .int .i64 (i : Int)] w fun e' w' => True ∧ ER w0 X L g cc a r (actE z i 4) e' w' := by
 obtain ⟨ga, oa, ha, hr⟩ := hs.own_at 1 rfl (by omega)
 obtain rfl : a = ⟨ga, oa, none⟩ := by simpa using ha
 subst hr
 clear ha
 obtain ⟨RL, hRL⟩ : ∃ RL, RL = zcl z (some ⟨ga, oa, none⟩) cc := ⟨_, rfl⟩
 obtain ⟨k, hk⟩ : ∃ n, n = z.l.length := ⟨_, rfl⟩
 have hk1 : k ≤ 4096 := by rw [hk, ho.1]; exact ho.2.2.1
 obtain ⟨l, hl⟩ : ∃ l, l = z.l := ⟨_, rfl⟩
 obtain ⟨x, hx⟩ : ∃ x, x = l.getD i dz := ⟨_, rfl⟩
 obtain ⟨st, hst⟩ : ∃ p, p = x.st := ⟨_, rfl⟩
 obtain ⟨cap, hcap⟩ : ∃ n, n = z.c.cap := ⟨_, rfl⟩
 have R5 := Lib.hid (show RL[5]? = some (.slice (some ⟨ga, oa, none⟩) k cc) by rw [hRL, hk]; rfl)
 have R2 := Lib.hid (show RL[2]? = some (iv cap) by rw [hRL, hcap]; rfl)
 have e1 : pZ g z (some ⟨ga, oa, none⟩) cc = .blk g 71 RL := by rw [hRL]
 have e2 : pL (some ga) (some ⟨ga, oa, none⟩) cc z = .own 3 (some ga) (some ⟨ga, oa, none⟩) k cc (ocs l) := by unfold pL; rw [← hk, ← hl]
 have hil : i < l.length := by rw [hl]; exact hi
 have hxg : x = l[i] := by rw [hx]; exact getD_get hil
 have hso := ho.2.2.2.2.2.2.2.2.2 _ (getD_mem hi)
 rw [← hl, ← hx, ← hst] at hso
 have CZ : Hid (∀ (M : List At), Cell (M ++ (.blk g 71 RL :: .own 3 (some ga) (some ⟨ga, oa, none⟩) k cc (ocs l) :: L)) g 5 (.slice (some ⟨ga, oa, none⟩) k cc)) := Lib.hid (fun M => capp M (Cell.blk 0 rfl R5.out))
 have CS : Hid (∀ (M : List At), Cell (M ++ (.blk g 71 RL :: .own 3 (some ga) (some ⟨ga, oa, none⟩) k cc (ocs l) :: L)) ga (oa + i * 3) (iv st)) := Lib.hid (fun M => capp M (by
  have h := ocs_at l i hil 0 (by decide)
  rw [Nat.add_zero] at h
  exact (Reads.own 1 rfl : Reads (.blk g 71 RL :: .own 3 (some ga) (some ⟨ga, oa, none⟩) k cc (ocs l) :: L) _ _).cell (i * 3) (v := iv st) (by rw [h, hst, hxg]; rfl)))
 have HR : Hid (Reads (.blk g 71 RL :: .own 3 (some ga) (some ⟨ga, oa, none⟩) k cc (ocs l) :: L) (some ⟨ga, oa + i * 3, none⟩) (oc x)) := Lib.hid (by
  have h := row_at (L := (.blk g 71 RL :: .own 3 (some ga) (some ⟨ga, oa, none⟩) k cc (ocs l) :: L)) (Reads.own 1 rfl) hil
  rw [hxg]; exact h)
 have hik : (i : Int) < (k : Int) := by omega
 have HIK := Lib.hid (show i < k by omega)
 have HIL := Lib.hid hil
 have HKL := Lib.hid (show l.length = k by rw [hl, hk])
 have LE0 := Lib.hid (show i * 3 < (ocs l).length by rw [ocs_len]; omega)
 have LE1 := Lib.hid (show i * 3 + 1 < (ocs l).length by rw [ocs_len]; omega)
 have E12 := Lib.hid (And.intro e1 e2)
 have HX := Lib.hid (show x = z.l.getD i dz by rw [hx, hl])
 have HST := Lib.hid hst
 have BAD : Hid (actE z i 4 = (z, 191) → ∀ (w : World), St w0 X (.blk g 71 RL :: .own 3 (some ga) (some ⟨ga, oa, none⟩) k cc (ocs l) :: L) w → ER w0 X L g cc ⟨ga, oa, none⟩ (some ga) (actE z i 4) (.panicked (chS 191)) w) := Lib.hid (fun he w hs => by
  rw [← e1, ← e2] at hs
  exact .inr (by rw [he]; exact ⟨(show (191 : Nat) ≠ 0 by decide), rfl, z, hs⟩))
 have FIN : Hid (∀ (x' : Zn), actE z i 4 = (putS z i x', 0) → ∀ (w : World), St w0 X (.blk g 71 RL :: .own 3 (some ga) (some ⟨ga, oa, none⟩) k cc (ocs (l.set i x')) :: L) w → ER w0 X L g cc ⟨ga, oa, none⟩ (some ga) (actE z i 4) (.returned (.tuple #[])) w) := Lib.hid (fun x' he w hs => by
  rw [he]
  refine .inl ⟨rfl, rfl, ?_⟩
  rw [pZ_putS, e1]
  unfold pL putS
  dsimp only
  rw [List.length_set, ← hk, ← hl]
  exact hs)
 have HO := Lib.hid ho
 have HI := Lib.hid hi
 rw [e1, e2] at hs
 have HXG := Lib.hid (show x = l.getD i dz from hx)
 clear hxg
 clear hRL hk hl hx hcap e1 e2 ho hi hil
 cases hb : ([1,2,3,4,14] : List Int).contains (st : Int) with
 | false =>
  have HB := Lib.hid hb
  have HE := Lib.hid (BAD.out (by
   simp only [List.contains_cons, List.contains_nil, Bool.or_false, Bool.or_eq_false_iff, beq_eq_false_iff_ne] at hb
   rw [actE_x HX.out HST.out]
   rw [if_neg (by decide), if_pos (by omega)]))
  clear BAD FIN hso hb hst
  go_enter Try.func76, Try.ntmps76
  go_wp2_with (first | ((with_reducible refine Se.isL (o := ⟨some 6, _, _, _, _, _⟩) ?_); (refine Se.toL rfl (Se.bsv (o := ⟨some 6, _, _, _, _, _⟩) hs rfl Try.underlying59 zsi rfl ([.int .i64 1, .int .i64 2, .int .i64 3, .int .i64 4, .int .i64 14]) (by rfl) (by rfl) (by decide) (by decide) (by simp [Value.oneCell']) ?_); clear hs; rintro w g6 - hs)) | (go_at_call 90; refine Calls.mono (from_bad hs (CZ.out [_]) (CS.out [_]) HIK.out rfl (Reads.blk 0 rfl) (by decide) HB.out) ?_; clear hs; rintro e w ⟨rfl, hs⟩))
  exact ⟨rfl, trivial, HE.out _ hs.drop⟩
 | true =>
  have HB := Lib.hid hb
  have HCA : Hid (st = 1 ∨ st = 2 ∨ st = 3 ∨ st = 4 ∨ st = 14) := Lib.hid (by
   simp only [List.contains_cons, List.contains_nil, Bool.or_false, Bool.or_eq_true, beq_iff_eq] at hb
   omega)
  have HE := Lib.hid (FIN.out { x with st := 1, p := 0 } (by rw [actE_x HX.out HST.out, if_neg (by decide), if_neg (by have := HCA.out; omega), if_neg (by decide), if_neg (by decide), if_neg (by decide)]))
  have CE : Hid (((ocs l).set (i * 3) (.int .i64 1)).set (i * 3 + 1) (.int .i64 0) = ocs (l.set i { x with st := 1, p := 0 })) := Lib.hid (by
   have h1 := ocs_set l i HIL.out 1
   have h2 := ocs_set_p (l.set i { l.getD i dz with st := 1 }) i (by rw [List.length_set]; exact HIL.out) 0
   rw [getD_set HIL.out, List.set_set] at h2
   rw [HXG.out]
   rw [← h1] at h2
   exact h2)
  have LE1' := Lib.hid (show i * 3 + 1 < ((ocs l).set (i * 3) (.int .i64 1)).length by rw [List.length_set]; exact LE1.out)
  clear BAD FIN hso hb hst
  go_enter Try.func76, Try.ntmps76
  go_upto_region 1 with (first | ((with_reducible refine Se.isL (o := ⟨some 6, _, _, _, _, _⟩) ?_); (refine Se.toL rfl (Se.bsv (o := ⟨some 6, _, _, _, _, _⟩) hs rfl Try.underlying59 zsi rfl ([.int .i64 1, .int .i64 2, .int .i64 3, .int .i64 4, .int .i64 14]) (by rfl) (by rfl) (by decide) (by decide) (by simp [Value.oneCell']) ?_); clear hs; rintro w g6 - hs)) | (go_at_call 90; refine Calls.mono (from_ok hs (CZ.out [_]) (CS.out [_]) HIK.out rfl (Reads.blk 0 rfl) (by decide) HB.out) ?_; clear hs; rintro e w ⟨rfl, hs⟩))
  replace hs := hs.drop
  refine Ch.region' 15 (fun wx => Blk wx g RL 71) (fun | 12 => true | _ => false) (by kernel_rfl) (by decide +kernel) (hs.drew.hold (.blk g 71 RL) (by simp)) ?_
  replace hs := hs.drew
  generalize w.drew = w at hs ⊢
  change Ch.CW _ _ _ _ _ [0, 1, 2, 3, 4, 5, 6, 7, 8, 9, 10, 11, 12, 13, 14] _ _
  iterate 12 ((first | (refine Ch.pure (v := ?_) (by rfl) (by rfl) (by rfl) (fun wx hS => ?_) ?_; rotate_left; (focus (go_simp; (first | done | with_reducible rfl)))) | refine Ch.pure (v := _) (by rfl) (by rfl) (by rfl) (fun wx hS => Se.xl rfl rfl (by rw [hS.cell]; exact R5.out) (by decide +kernel)) ?_ | refine Ch.pure (v := _) (by rfl) (by rfl) (by rfl) (fun wx hS => Se.xl rfl rfl (by rw [hS.cell]; exact R2.out) (by decide +kernel)) ?_); (try simp only [Act.put, List.setIfInBounds_toArray, List.set_cons_zero, List.set_cons_succ]))
  refine Ch.noise (by rfl) (by rfl) (by rfl) (Se.soo 1 (i := i * 3) (v := .int .i64 1) hs rfl rfl rfl rfl rfl (by kernel_rfl) LE0.out ?_)
  clear hs
  intro w hs
  simp only [List.cons_append, List.nil_append, List.set_cons_zero, List.set_cons_succ] at hs
  refine ⟨hs.hold (.blk g 71 RL) (by simp), ?_⟩
  (try simp only [Act.put, List.setIfInBounds_toArray, List.set_cons_zero, List.set_cons_succ])
  iterate 2 ((first | (refine Ch.pure (v := ?_) (by rfl) (by rfl) (by rfl) (fun wx hS => ?_) ?_; rotate_left; (focus (go_simp; (first | done | with_reducible rfl)))) | refine Ch.pure (v := _) (by rfl) (by rfl) (by rfl) (fun wx hS => Se.xl rfl rfl (by rw [hS.cell]; exact R5.out) (by decide +kernel)) ?_ | refine Ch.pure (v := _) (by rfl) (by rfl) (by rfl) (fun wx hS => Se.xl rfl rfl (by rw [hS.cell]; exact R2.out) (by decide +kernel)) ?_); (try simp only [Act.put, List.setIfInBounds_toArray, List.set_cons_zero, List.set_cons_succ]))
  refine Ch.done ?_
  try simp only [List.drop_succ_cons, List.drop_zero]
  go_wp2_with (first | ((with_reducible refine Se.isL (o := ⟨none, _, _, _, _, _⟩) ?_); ((first | refine Se.toL rfl (Se.sooe 1 (v := .int _ _) hs rfl rfl rfl rfl rfl (by kernel_rfl) ((Nat.add_assoc _ _ _)) (LE1'.out) (CE.out) ?_) | refine Se.toL rfl (Se.sooe 1 (v := .bool _) hs rfl rfl rfl rfl rfl (by kernel_rfl) ((Nat.add_assoc _ _ _)) (LE1'.out) (CE.out) ?_) | refine Se.toL rfl (Se.sooe 1 (v := .slice _ _ _) hs rfl rfl rfl rfl rfl (by kernel_rfl) ((Nat.add_assoc _ _ _)) (LE1'.out) (CE.out) ?_) | refine Se.toL rfl (Se.sooe 1 (v := .pointer _) hs rfl rfl rfl rfl rfl (by kernel_rfl) ((Nat.add_assoc _ _ _)) (LE1'.out) (CE.out) ?_) | refine Se.toL rfl (Se.sooe 1 (v := .string _) hs rfl rfl rfl rfl rfl (by kernel_rfl) ((Nat.add_assoc _ _ _)) (LE1'.out) (CE.out) ?_) | refine Se.toL rfl (Se.sooe 1 (v := .map _) hs rfl rfl rfl rfl rfl (by kernel_rfl) ((Nat.add_assoc _ _ _)) (LE1'.out) (CE.out) ?_) | refine Se.toL rfl (Se.sooe 1 (v := .func _ _ _) hs rfl rfl rfl rfl rfl (by kernel_rfl) ((Nat.add_assoc _ _ _)) (LE1'.out) (CE.out) ?_) | refine Se.toL rfl (Se.sooe 1 (v := .nilFunc) hs rfl rfl rfl rfl rfl (by kernel_rfl) ((Nat.add_assoc _ _ _)) (LE1'.out) (CE.out) ?_)); clear hs; intro w hs; try simp only [List.cons_append, List.nil_append, List.set_cons_zero, List.set_cons_succ] at hs)))
  go_end0
  first | exact HE.out _ hs | exact ⟨trivial, HE.out _ hs⟩
theorem finish_st {g cc : Nat} {z : Zs} {a : Addr} {r : Option Nat} (hs : St w0 X (pZ g z (some a) cc :: pL r (some a) cc z :: L) w) (ho : OkZ z) {i : Nat} (hi : i < z.l.length) :
  Calls Try.prog 74 #[.pointer (some ⟨g, 0, none⟩), .int .i64 (i : Int)] w fun e' w' => True ∧ ER w0 X L g cc a r (actE z i 2) e' w' := by
 obtain ⟨ga, oa, ha, hr⟩ := hs.own_at 1 rfl (by omega)
 obtain rfl : a = ⟨ga, oa, none⟩ := by simpa using ha
 subst hr
 clear ha
 obtain ⟨RL, hRL⟩ : ∃ RL, RL = zcl z (some ⟨ga, oa, none⟩) cc := ⟨_, rfl⟩
 obtain ⟨k, hk⟩ : ∃ n, n = z.l.length := ⟨_, rfl⟩
 have hk1 : k ≤ 4096 := by rw [hk, ho.1]; exact ho.2.2.1
 obtain ⟨l, hl⟩ : ∃ l, l = z.l := ⟨_, rfl⟩
 obtain ⟨x, hx⟩ : ∃ x, x = l.getD i dz := ⟨_, rfl⟩
 obtain ⟨st, hst⟩ : ∃ p, p = x.st := ⟨_, rfl⟩
 obtain ⟨cap, hcap⟩ : ∃ n, n = z.c.cap := ⟨_, rfl⟩
 have R5 := Lib.hid (show RL[5]? = some (.slice (some ⟨ga, oa, none⟩) k cc) by rw [hRL, hk]; rfl)
 have R2 := Lib.hid (show RL[2]? = some (iv cap) by rw [hRL, hcap]; rfl)
 have e1 : pZ g z (some ⟨ga, oa, none⟩) cc = .blk g 71 RL := by rw [hRL]
 have e2 : pL (some ga) (some ⟨ga, oa, none⟩) cc z = .own 3 (some ga) (some ⟨ga, oa, none⟩) k cc (ocs l) := by unfold pL; rw [← hk, ← hl]
 have hil : i < l.length := by rw [hl]; exact hi
 have hxg : x = l[i] := by rw [hx]; exact getD_get hil
 have hso := ho.2.2.2.2.2.2.2.2.2 _ (getD_mem hi)
 rw [← hl, ← hx, ← hst] at hso
 have CZ : Hid (∀ (M : List At), Cell (M ++ (.blk g 71 RL :: .own 3 (some ga) (some ⟨ga, oa, none⟩) k cc (ocs l) :: L)) g 5 (.slice (some ⟨ga, oa, none⟩) k cc)) := Lib.hid (fun M => capp M (Cell.blk 0 rfl R5.out))
 have CS : Hid (∀ (M : List At), Cell (M ++ (.blk g 71 RL :: .own 3 (some ga) (some ⟨ga, oa, none⟩) k cc (ocs l) :: L)) ga (oa + i * 3) (iv st)) := Lib.hid (fun M => capp M (by
  have h := ocs_at l i hil 0 (by decide)
  rw [Nat.add_zero] at h
  exact (Reads.own 1 rfl : Reads (.blk g 71 RL :: .own 3 (some ga) (some ⟨ga, oa, none⟩) k cc (ocs l) :: L) _ _).cell (i * 3) (v := iv st) (by rw [h, hst, hxg]; rfl)))
 have HR : Hid (Reads (.blk g 71 RL :: .own 3 (some ga) (some ⟨ga, oa, none⟩) k cc (ocs l) :: L) (some ⟨ga, oa + i * 3, none⟩) (oc x)) := Lib.hid (by
  have h := row_at (L := (.blk g 71 RL :: .own 3 (some ga) (some ⟨ga, oa, none⟩) k cc (ocs l) :: L)) (Reads.own 1 rfl) hil
  rw [hxg]; exact h)
 have hik : (i : Int) < (k : Int) := by omega
 have HIK := Lib.hid (show i < k by omega)
 have HIL := Lib.hid hil
 have HKL := Lib.hid (show l.length = k by rw [hl, hk])
 have LE0 := Lib.hid (show i * 3 < (ocs l).length by rw [ocs_len]; omega)
 have LE1 := Lib.hid (show i * 3 + 1 < (ocs l).length by rw [ocs_len]; omega)
 have E12 := Lib.hid (And.intro e1 e2)
 have HX := Lib.hid (show x = z.l.getD i dz by rw [hx, hl])
 have HST := Lib.hid hst
 have BAD : Hid (actE z i 2 = (z, 191) → ∀ (w : World), St w0 X (.blk g 71 RL :: .own 3 (some ga) (some ⟨ga, oa, none⟩) k cc (ocs l) :: L) w → ER w0 X L g cc ⟨ga, oa, none⟩ (some ga) (actE z i 2) (.panicked (chS 191)) w) := Lib.hid (fun he w hs => by
  rw [← e1, ← e2] at hs
  exact .inr (by rw [he]; exact ⟨(show (191 : Nat) ≠ 0 by decide), rfl, z, hs⟩))
 have FIN : Hid (∀ (x' : Zn), actE z i 2 = (putS z i x', 0) → ∀ (w : World), St w0 X (.blk g 71 RL :: .own 3 (some ga) (some ⟨ga, oa, none⟩) k cc (ocs (l.set i x')) :: L) w → ER w0 X L g cc ⟨ga, oa, none⟩ (some ga) (actE z i 2) (.returned (.tuple #[])) w) := Lib.hid (fun x' he w hs => by
  rw [he]
  refine .inl ⟨rfl, rfl, ?_⟩
  rw [pZ_putS, e1]
  unfold pL putS
  dsimp only
  rw [List.length_set, ← hk, ← hl]
  exact hs)
 have HO := Lib.hid ho
 have HI := Lib.hid hi
 rw [e1, e2] at hs
 have HXG := Lib.hid (show x = l.getD i dz from hx)
 clear hxg
 have hcap2 := Lib.hid hcap
 clear hRL hk hl hx hcap e1 e2 ho hi hil
 cases hb : ([1,2,3,4,14] : List Int).contains (st : Int) with
 | false =>
  have HB := Lib.hid hb
  have HE := Lib.hid (BAD.out (by
   simp only [List.contains_cons, List.contains_nil, Bool.or_false, Bool.or_eq_false_iff, beq_eq_false_iff_ne] at hb
   rw [actE_x HX.out HST.out]
   rw [if_neg (by decide), if_pos (by omega)]))
  clear BAD FIN hso hb hst
  go_enter Try.func74, Try.ntmps74
  go_wp2_with (first | ((with_reducible refine Se.isL (o := ⟨some 6, _, _, _, _, _⟩) ?_); (refine Se.toL rfl (Se.bsv (o := ⟨some 6, _, _, _, _, _⟩) hs rfl Try.underlying59 zsi rfl ([.int .i64 1, .int .i64 2, .int .i64 3, .int .i64 4, .int .i64 14]) (by rfl) (by rfl) (by decide) (by decide) (by simp [Value.oneCell']) ?_); clear hs; rintro w g6 - hs)) | (go_at_call 90; refine Calls.mono (from_bad hs (CZ.out [_]) (CS.out [_]) HIK.out rfl (Reads.blk 0 rfl) (by decide) HB.out) ?_; clear hs; rintro e w ⟨rfl, hs⟩))
  exact ⟨rfl, trivial, HE.out _ hs.drop⟩
 | true =>
  have HB := Lib.hid hb
  have HCA : Hid (st = 1 ∨ st = 2 ∨ st = 3 ∨ st = 4 ∨ st = 14) := Lib.hid (by
   simp only [List.contains_cons, List.contains_nil, Bool.or_false, Bool.or_eq_true, beq_iff_eq] at hb
   omega)
  have HE := Lib.hid (FIN.out { x with st := 14, p := cap } (by rw [actE_x HX.out HST.out, if_neg (by decide), if_neg (by have := HCA.out; omega), if_neg (by decide), if_neg (by decide), if_pos rfl, hcap2.out]))
  have CE : Hid (((ocs l).set (i * 3) (.int .i64 14)).set (i * 3 + 1) (iv cap) = ocs (l.set i { x with st := 14, p := cap })) := Lib.hid (by
   have h1 := ocs_set l i HIL.out 14
   have h2 := ocs_set_p (l.set i { l.getD i dz with st := 14 }) i (by rw [List.length_set]; exact HIL.out) cap
   rw [getD_set HIL.out, List.set_set] at h2
   rw [HXG.out]
   rw [← h1] at h2
   exact h2)
  have LE1' := Lib.hid (show i * 3 + 1 < ((ocs l).set (i * 3) (.int .i64 14)).length by rw [List.length_set]; exact LE1.out)
  clear BAD FIN hso hb hst
  go_enter Try.func74, Try.ntmps74
  go_upto_region 1 with (first | ((with_reducible refine Se.isL (o := ⟨some 6, _, _, _, _, _⟩) ?_); (refine Se.toL rfl (Se.bsv (o := ⟨some 6, _, _, _, _, _⟩) hs rfl Try.underlying59 zsi rfl ([.int .i64 1, .int .i64 2, .int .i64 3, .int .i64 4, .int .i64 14]) (by rfl) (by rfl) (by decide) (by decide) (by simp [Value.oneCell']) ?_); clear hs; rintro w g6 - hs)) | (go_at_call 90; refine Calls.mono (from_ok hs (CZ.out [_]) (CS.out [_]) HIK.out rfl (Reads.blk 0 rfl) (by decide) HB.out) ?_; clear hs; rintro e w ⟨rfl, hs⟩))
  replace hs := hs.drop
  refine Ch.region' 20 (fun wx => Blk wx g RL 71) (fun | 17 => true | _ => false) (by kernel_rfl) (by decide +kernel) (hs.drew.hold (.blk g 71 RL) (by simp)) ?_
  replace hs := hs.drew
  generalize w.drew = w at hs ⊢
  change Ch.CW _ _ _ _ _ [0, 1, 2, 3, 4, 5, 6, 7, 8, 9, 10, 11, 12, 13, 14, 15, 16, 17, 18, 19] _ _
  iterate 17 ((first | (refine Ch.pure (v := ?_) (by rfl) (by rfl) (by rfl) (fun wx hS => ?_) ?_; rotate_left; (focus (go_simp; (first | done | with_reducible rfl)))) | refine Ch.pure (v := _) (by rfl) (by rfl) (by rfl) (fun wx hS => Se.xl rfl rfl (by rw [hS.cell]; exact R5.out) (by decide +kernel)) ?_ | refine Ch.pure (v := _) (by rfl) (by rfl) (by rfl) (fun wx hS => Se.xl rfl rfl (by rw [hS.cell]; exact R2.out) (by decide +kernel)) ?_); (try simp only [Act.put, List.setIfInBounds_toArray, List.set_cons_zero, List.set_cons_succ]))
  refine Ch.noise (by rfl) (by rfl) (by rfl) (Se.soo 1 (i := i * 3) (v := .int .i64 14) hs rfl rfl rfl rfl rfl (by kernel_rfl) LE0.out ?_)
  clear hs
  intro w hs
  simp only [List.cons_append, List.nil_append, List.set_cons_zero, List.set_cons_succ] at hs
  refine ⟨hs.hold (.blk g 71 RL) (by simp), ?_⟩
  (try simp only [Act.put, List.setIfInBounds_toArray, List.set_cons_zero, List.set_cons_succ])
  iterate 2 ((first | (refine Ch.pure (v := ?_) (by rfl) (by rfl) (by rfl) (fun wx hS => ?_) ?_; rotate_left; (focus (go_simp; (first | done | with_reducible rfl)))) | refine Ch.pure (v := _) (by rfl) (by rfl) (by rfl) (fun wx hS => Se.xl rfl rfl (by rw [hS.cell]; exact R5.out) (by decide +kernel)) ?_ | refine Ch.pure (v := _) (by rfl) (by rfl) (by rfl) (fun wx hS => Se.xl rfl rfl (by rw [hS.cell]; exact R2.out) (by decide +kernel)) ?_); (try simp only [Act.put, List.setIfInBounds_toArray, List.set_cons_zero, List.set_cons_succ]))
  refine Ch.done ?_
  try simp only [List.drop_succ_cons, List.drop_zero]
  go_wp2_with (first | ((with_reducible refine Se.isL (o := ⟨none, _, _, _, _, _⟩) ?_); ((first | refine Se.toL rfl (Se.sooe 1 (v := .int _ _) hs rfl rfl rfl rfl rfl (by kernel_rfl) ((Nat.add_assoc _ _ _)) (LE1'.out) (CE.out) ?_) | refine Se.toL rfl (Se.sooe 1 (v := .bool _) hs rfl rfl rfl rfl rfl (by kernel_rfl) ((Nat.add_assoc _ _ _)) (LE1'.out) (CE.out) ?_) | refine Se.toL rfl (Se.sooe 1 (v := .slice _ _ _) hs rfl rfl rfl rfl rfl (by kernel_rfl) ((Nat.add_assoc _ _ _)) (LE1'.out) (CE.out) ?_) | refine Se.toL rfl (Se.sooe 1 (v := .pointer _) hs rfl rfl rfl rfl rfl (by kernel_rfl) ((Nat.add_assoc _ _ _)) (LE1'.out) (CE.out) ?_) | refine Se.toL rfl (Se.sooe 1 (v := .string _) hs rfl rfl rfl rfl rfl (by kernel_rfl) ((Nat.add_assoc _ _ _)) (LE1'.out) (CE.out) ?_) | refine Se.toL rfl (Se.sooe 1 (v := .map _) hs rfl rfl rfl rfl rfl (by kernel_rfl) ((Nat.add_assoc _ _ _)) (LE1'.out) (CE.out) ?_) | refine Se.toL rfl (Se.sooe 1 (v := .func _ _ _) hs rfl rfl rfl rfl rfl (by kernel_rfl) ((Nat.add_assoc _ _ _)) (LE1'.out) (CE.out) ?_) | refine Se.toL rfl (Se.sooe 1 (v := .nilFunc) hs rfl rfl rfl rfl rfl (by kernel_rfl) ((Nat.add_assoc _ _ _)) (LE1'.out) (CE.out) ?_)); clear hs; intro w hs; try simp only [List.cons_append, List.nil_append, List.set_cons_zero, List.set_cons_succ] at hs)))
  go_end0
  first | exact HE.out _ hs | exact ⟨trivial, HE.out _ hs⟩
theorem close_st {g cc : Nat} {z : Zs} {a : Addr} {r : Option Nat} (hs : St w0 X (pZ g z (some a) cc :: pL r (some a) cc z :: L) w) (ho : OkZ z) {i : Nat} (hi : i < z.l.length) :
  Calls Try.prog 73 #[.pointer (some ⟨g, 0, none⟩), .int .i64 (i : Int)] w fun e' w' => True ∧ ER w0 X L g cc a r (actE z i 1) e' w' := by
 obtain ⟨ga, oa, ha, hr⟩ := hs.own_at 1 rfl (by omega)
 obtain rfl : a = ⟨ga, oa, none⟩ := by simpa using ha
 subst hr
 clear ha
 obtain ⟨RL, hRL⟩ : ∃ RL, RL = zcl z (some ⟨ga, oa, none⟩) cc := ⟨_, rfl⟩
 obtain ⟨k, hk⟩ : ∃ n, n = z.l.length := ⟨_, rfl⟩
 have hk1 : k ≤ 4096 := by rw [hk, ho.1]; exact ho.2.2.1
 obtain ⟨l, hl⟩ : ∃ l, l = z.l := ⟨_, rfl⟩
 obtain ⟨x, hx⟩ : ∃ x, x = l.getD i dz := ⟨_, rfl⟩
 obtain ⟨st, hst⟩ : ∃ p, p = x.st := ⟨_, rfl⟩
 obtain ⟨cap, hcap⟩ : ∃ n, n = z.c.cap := ⟨_, rfl⟩
 have R5 := Lib.hid (show RL[5]? = some (.slice (some ⟨ga, oa, none⟩) k cc) by rw [hRL, hk]; rfl)
 have R2 := Lib.hid (show RL[2]? = some (iv cap) by rw [hRL, hcap]; rfl)
 have e1 : pZ g z (some ⟨ga, oa, none⟩) cc = .blk g 71 RL := by rw [hRL]
 have e2 : pL (some ga) (some ⟨ga, oa, none⟩) cc z = .own 3 (some ga) (some ⟨ga, oa, none⟩) k cc (ocs l) := by unfold pL; rw [← hk, ← hl]
 have hil : i < l.length := by rw [hl]; exact hi
 have hxg : x = l[i] := by rw [hx]; exact getD_get hil
 have hso := ho.2.2.2.2.2.2.2.2.2 _ (getD_mem hi)
 rw [← hl, ← hx, ← hst] at hso
 have CZ : Hid (∀ (M : List At), Cell (M ++ (.blk g 71 RL :: .own 3 (some ga) (some ⟨ga, oa, none⟩) k cc (ocs l) :: L)) g 5 (.slice (some ⟨ga, oa, none⟩) k cc)) := Lib.hid (fun M => capp M (Cell.blk 0 rfl R5.out))
 have CS : Hid (∀ (M : List At), Cell (M ++ (.blk g 71 RL :: .own 3 (some ga) (some ⟨ga, oa, none⟩) k cc (ocs l) :: L)) ga (oa + i * 3) (iv st)) := Lib.hid (fun M => capp M (by
  have h := ocs_at l i hil 0 (by decide)
  rw [Nat.add_zero] at h
  exact (Reads.own 1 rfl : Reads (.blk g 71 RL :: .own 3 (some ga) (some ⟨ga, oa, none⟩) k cc (ocs l) :: L) _ _).cell (i * 3) (v := iv st) (by rw [h, hst, hxg]; rfl)))
 have HR : Hid (Reads (.blk g 71 RL :: .own 3 (some ga) (some ⟨ga, oa, none⟩) k cc (ocs l) :: L) (some ⟨ga, oa + i * 3, none⟩) (oc x)) := Lib.hid (by
  have h := row_at (L := (.blk g 71 RL :: .own 3 (some ga) (some ⟨ga, oa, none⟩) k cc (ocs l) :: L)) (Reads.own 1 rfl) hil
  rw [hxg]; exact h)
 have hik : (i : Int) < (k : Int) := by omega
 have HIK := Lib.hid (show i < k by omega)
 have HIL := Lib.hid hil
 have HKL := Lib.hid (show l.length = k by rw [hl, hk])
 have LE0 := Lib.hid (show i * 3 < (ocs l).length by rw [ocs_len]; omega)
 have LE1 := Lib.hid (show i * 3 + 1 < (ocs l).length by rw [ocs_len]; omega)
 have E12 := Lib.hid (And.intro e1 e2)
 have HX := Lib.hid (show x = z.l.getD i dz by rw [hx, hl])
 have HST := Lib.hid hst
 have BAD : Hid (actE z i 1 = (z, 191) → ∀ (w : World), St w0 X (.blk g 71 RL :: .own 3 (some ga) (some ⟨ga, oa, none⟩) k cc (ocs l) :: L) w → ER w0 X L g cc ⟨ga, oa, none⟩ (some ga) (actE z i 1) (.panicked (chS 191)) w) := Lib.hid (fun he w hs => by
  rw [← e1, ← e2] at hs
  exact .inr (by rw [he]; exact ⟨(show (191 : Nat) ≠ 0 by decide), rfl, z, hs⟩))
 have FIN : Hid (∀ (x' : Zn), actE z i 1 = (putS z i x', 0) → ∀ (w : World), St w0 X (.blk g 71 RL :: .own 3 (some ga) (some ⟨ga, oa, none⟩) k cc (ocs (l.set i x')) :: L) w → ER w0 X L g cc ⟨ga, oa, none⟩ (some ga) (actE z i 1) (.returned (.tuple #[])) w) := Lib.hid (fun x' he w hs => by
  rw [he]
  refine .inl ⟨rfl, rfl, ?_⟩
  rw [pZ_putS, e1]
  unfold pL putS
  dsimp only
  rw [List.length_set, ← hk, ← hl]
  exact hs)
 have HO := Lib.hid ho
 have HI := Lib.hid hi
 rw [e1, e2] at hs
 have HXG := Lib.hid (show x = l.getD i dz from hx)
 clear hxg
 clear hRL hk hl hx hcap e1 e2 ho hi hil
 cases hb : ([2,3,4] : List Int).contains (st : Int) with
 | false =>
  have HB := Lib.hid hb
  have HE := Lib.hid (BAD.out (by
   simp only [List.contains_cons, List.contains_nil, Bool.or_false, Bool.or_eq_false_iff, beq_eq_false_iff_ne] at hb
   rw [actE_x HX.out HST.out]
   rw [if_neg (by decide), if_pos (by omega)]))
  clear BAD FIN hso hb hst
  go_enter Try.func73, Try.ntmps73
  go_wp2_with (first | ((with_reducible refine Se.isL (o := ⟨some 6, _, _, _, _, _⟩) ?_); (refine Se.toL rfl (Se.bsv (o := ⟨some 6, _, _, _, _, _⟩) hs rfl Try.underlying59 zsi rfl ([.int .i64 2, .int .i64 3, .int .i64 4]) (by rfl) (by rfl) (by decide) (by decide) (by simp [Value.oneCell']) ?_); clear hs; rintro w g6 - hs)) | (go_at_call 90; refine Calls.mono (from_bad hs (CZ.out [_]) (CS.out [_]) HIK.out rfl (Reads.blk 0 rfl) (by decide) HB.out) ?_; clear hs; rintro e w ⟨rfl, hs⟩))
  exact ⟨rfl, trivial, HE.out _ hs.drop⟩
 | true =>
  have HB := Lib.hid hb
  have HCA : Hid (st = 2 ∨ st = 3 ∨ st = 4) := Lib.hid (by
   simp only [List.contains_cons, List.contains_nil, Bool.or_false, Bool.or_eq_true, beq_iff_eq] at hb
   omega)
  have HE := Lib.hid (FIN.out (closeZ x) (by rw [actE_x HX.out HST.out, if_neg (by decide), if_neg (by have := HCA.out; omega), if_neg (by decide), if_pos rfl]))
  have CE : Hid ((ocs l).take (i * 3) ++ oc (closeZ x) ++ (ocs l).drop (i * 3 + 3) = ocs (l.set i (closeZ x))) := Lib.hid (ocs_row_set l i HIL.out _)
  have LE3 := Lib.hid (show i * 3 + 3 ≤ (ocs l).length by rw [ocs_len]; have := HIL.out; omega)
  have CC := Lib.hid (show ∀ (L : List At) (w : World), St w0 X L w → Calls Try.prog 64 #[.agg (oc x).toArray] w fun e w' => e = .returned (.agg (oc (closeZ x)).toArray) ∧ St w0 X L w' from fun L w hs => closed_st hs x)
  obtain ⟨O, hO⟩ : ∃ O, O = oc x := ⟨_, rfl⟩
  obtain ⟨O2, hO2⟩ : ∃ O, O = oc (closeZ x) := ⟨_, rfl⟩
  have OL := Lib.hid (show O.length = 3 by rw [hO]; rfl)
  have OL2 := Lib.hid (show O2.length = 3 by rw [hO2]; rfl)
  have OO2 := Lib.hid (show ∀ v ∈ O2, v.oneCell' = true by rw [hO2]; exact oc_one _)
  rw [← hO] at HR CC
  rw [← hO2] at CC CE
  clear BAD FIN hso hb hst hO hO2
  go_enter Try.func73, Try.ntmps73
  go_upto_region 1 with (first | ((with_reducible refine Se.isL (o := ⟨some 6, _, _, _, _, _⟩) ?_); (refine Se.toL rfl (Se.bsv (o := ⟨some 6, _, _, _, _, _⟩) hs rfl Try.underlying59 zsi rfl ([.int .i64 2, .int .i64 3, .int .i64 4]) (by rfl) (by rfl) (by decide) (by decide) (by simp [Value.oneCell']) ?_); clear hs; rintro w g6 - hs)) | (go_at_call 90; refine Calls.mono (from_ok hs (CZ.out [_]) (CS.out [_]) HIK.out rfl (Reads.blk 0 rfl) (by decide) HB.out) ?_; clear hs; rintro e w ⟨rfl, hs⟩))
  replace hs := hs.drop
  refine Ch.region' 14 (fun wx => Blk wx g RL 71) (fun | 11 => true | 12 => true | _ => false) (by kernel_rfl) (by decide +kernel) (hs.drew.hold (.blk g 71 RL) (by simp)) ?_
  replace hs := hs.drew
  generalize w.drew = w at hs ⊢
  change Ch.CW _ _ _ _ _ [0, 1, 2, 3, 4, 5, 6, 7, 8, 9, 10, 11, 12, 13] _ _
  iterate 11 ((first | (refine Ch.pure (v := ?_) (by rfl) (by rfl) (by rfl) (fun wx hS => ?_) ?_; rotate_left; (focus (go_simp; (first | done | with_reducible rfl)))) | refine Ch.pure (v := _) (by rfl) (by rfl) (by rfl) (fun wx hS => Se.xl rfl rfl (by rw [hS.cell]; exact R5.out) (by decide +kernel)) ?_ | refine Ch.pure (v := _) (by rfl) (by rfl) (by rfl) (fun wx hS => Se.xl rfl rfl (by rw [hS.cell]; exact R2.out) (by decide +kernel)) ?_); (try simp only [Act.put, List.setIfInBounds_toArray, List.set_cons_zero, List.set_cons_succ]))
  refine Ch.noise (by rfl) (by rfl) (by rfl) (Se.ldw hs rfl rfl HR.out (by rw [OL.out]; kernel_rfl) (by kernel_rfl) ?_)
  refine ⟨hs.hold (.blk g 71 RL) (by simp), ?_⟩
  (try simp only [Act.put, List.setIfInBounds_toArray, List.set_cons_zero, List.set_cons_succ])
  refine Ch.noise (by rfl) (by rfl) (by rfl) ?_
  refine Se.gcall (f := 64) (args := #[.agg O.toArray]) ?_ ?_
  ·go_simp
  refine Calls.mono (CC.out _ _ hs) ?_
  clear hs
  rintro e w ⟨rfl, hs⟩
  refine ⟨_, rfl, hs.hold (.blk g 71 RL) (by simp), ?_⟩
  (try simp only [Act.put, List.setIfInBounds_toArray, List.set_cons_zero, List.set_cons_succ])
  iterate 1 ((first | (refine Ch.pure (v := ?_) (by rfl) (by rfl) (by rfl) (fun wx hS => ?_) ?_; rotate_left; (focus (go_simp; (first | done | with_reducible rfl))))); (try simp only [Act.put, List.setIfInBounds_toArray, List.set_cons_zero, List.set_cons_succ]))
  refine Ch.done ?_
  try simp only [List.drop_succ_cons, List.drop_zero]
  go_wp2_with (first | ((with_reducible refine Se.isL (o := ⟨none, _, _, _, _, _⟩) ?_); (refine Se.toL rfl (Se.soae 1 hs rfl rfl rfl rfl (OO2.out) ((by rw [OL2.out]; kernel_rfl)) ((by rw [OL2.out]; decide)) (rfl) ((by rw [OL2.out]; exact LE3.out)) ((show _ = ocs (l.set i (closeZ x)) by rw [OL2.out]; exact CE.out)) ?_); clear hs; intro w hs; try simp only [List.cons_append, List.nil_append, List.set_cons_zero, List.set_cons_succ] at hs)))
  go_end0
  first | exact HE.out _ hs | exact ⟨trivial, HE.out _ hs⟩
theorem explicit_st {g cc : Nat} {z : Zs} {a : Addr} {r : Option Nat} (hs : St w0 X (pZ g z (some a) cc :: pL r (some a) cc z :: L) w) (ho : OkZ z) {i : Nat} (hi : i < z.l.length) :
  Calls Try.prog 75 #[.pointer (some ⟨g, 0, none⟩), .int .i64 (i : Int)] w fun e' w' => True ∧ ER w0 X L g cc a r (actE z i 3) e' w' := by
 obtain ⟨ga, oa, ha, hr⟩ := hs.own_at 1 rfl (by omega)
 obtain rfl : a = ⟨ga, oa, none⟩ := by simpa using ha
 subst hr
 clear ha
 obtain ⟨RL, hRL⟩ : ∃ RL, RL = zcl z (some ⟨ga, oa, none⟩) cc := ⟨_, rfl⟩
 obtain ⟨k, hk⟩ : ∃ n, n = z.l.length := ⟨_, rfl⟩
 have hk1 : k ≤ 4096 := by rw [hk, ho.1]; exact ho.2.2.1
 obtain ⟨l, hl⟩ : ∃ l, l = z.l := ⟨_, rfl⟩
 obtain ⟨x, hx⟩ : ∃ x, x = l.getD i dz := ⟨_, rfl⟩
 obtain ⟨st, hst⟩ : ∃ p, p = x.st := ⟨_, rfl⟩
 obtain ⟨cap, hcap⟩ : ∃ n, n = z.c.cap := ⟨_, rfl⟩
 have R5 := Lib.hid (show RL[5]? = some (.slice (some ⟨ga, oa, none⟩) k cc) by rw [hRL, hk]; rfl)
 have R2 := Lib.hid (show RL[2]? = some (iv cap) by rw [hRL, hcap]; rfl)
 have e1 : pZ g z (some ⟨ga, oa, none⟩) cc = .blk g 71 RL := by rw [hRL]
 have e2 : pL (some ga) (some ⟨ga, oa, none⟩) cc z = .own 3 (some ga) (some ⟨ga, oa, none⟩) k cc (ocs l) := by unfold pL; rw [← hk, ← hl]
 have hil : i < l.length := by rw [hl]; exact hi
 have hxg : x = l[i] := by rw [hx]; exact getD_get hil
 have hso := ho.2.2.2.2.2.2.2.2.2 _ (getD_mem hi)
 rw [← hl, ← hx, ← hst] at hso
 have CZ : Hid (∀ (M : List At), Cell (M ++ (.blk g 71 RL :: .own 3 (some ga) (some ⟨ga, oa, none⟩) k cc (ocs l) :: L)) g 5 (.slice (some ⟨ga, oa, none⟩) k cc)) := Lib.hid (fun M => capp M (Cell.blk 0 rfl R5.out))
 have CS : Hid (∀ (M : List At), Cell (M ++ (.blk g 71 RL :: .own 3 (some ga) (some ⟨ga, oa, none⟩) k cc (ocs l) :: L)) ga (oa + i * 3) (iv st)) := Lib.hid (fun M => capp M (by
  have h := ocs_at l i hil 0 (by decide)
  rw [Nat.add_zero] at h
  exact (Reads.own 1 rfl : Reads (.blk g 71 RL :: .own 3 (some ga) (some ⟨ga, oa, none⟩) k cc (ocs l) :: L) _ _).cell (i * 3) (v := iv st) (by rw [h, hst, hxg]; rfl)))
 have HR : Hid (Reads (.blk g 71 RL :: .own 3 (some ga) (some ⟨ga, oa, none⟩) k cc (ocs l) :: L) (some ⟨ga, oa + i * 3, none⟩) (oc x)) := Lib.hid (by
  have h := row_at (L := (.blk g 71 RL :: .own 3 (some ga) (some ⟨ga, oa, none⟩) k cc (ocs l) :: L)) (Reads.own 1 rfl) hil
  rw [hxg]; exact h)
 have hik : (i : Int) < (k : Int) := by omega
 have HIK := Lib.hid (show i < k by omega)
 have HIL := Lib.hid hil
 have HKL := Lib.hid (show l.length = k by rw [hl, hk])
 have LE0 := Lib.hid (show i * 3 < (ocs l).length by rw [ocs_len]; omega)
 have LE1 := Lib.hid (show i * 3 + 1 < (ocs l).length by rw [ocs_len]; omega)
 have E12 := Lib.hid (And.intro e1 e2)
 have HX := Lib.hid (show x = z.l.getD i dz by rw [hx, hl])
 have HST := Lib.hid hst
 have BAD : Hid (actE z i 3 = (z, 191) → ∀ (w : World), St w0 X (.blk g 71 RL :: .own 3 (some ga) (some ⟨ga, oa, none⟩) k cc (ocs l) :: L) w → ER w0 X L g cc ⟨ga, oa, none⟩ (some ga) (actE z i 3) (.panicked (chS 191)) w) := Lib.hid (fun he w hs => by
  rw [← e1, ← e2] at hs
  exact .inr (by rw [he]; exact ⟨(show (191 : Nat) ≠ 0 by decide), rfl, z, hs⟩))
 have FIN : Hid (∀ (x' : Zn), actE z i 3 = (putS z i x', 0) → ∀ (w : World), St w0 X (.blk g 71 RL :: .own 3 (some ga) (some ⟨ga, oa, none⟩) k cc (ocs (l.set i x')) :: L) w → ER w0 X L g cc ⟨ga, oa, none⟩ (some ga) (actE z i 3) (.returned (.tuple #[])) w) := Lib.hid (fun x' he w hs => by
  rw [he]
  refine .inl ⟨rfl, rfl, ?_⟩
  rw [pZ_putS, e1]
  unfold pL putS
  dsimp only
  rw [List.length_set, ← hk, ← hl]
  exact hs)
 have HO := Lib.hid ho
 have HI := Lib.hid hi
 rw [e1, e2] at hs
 have HXG := Lib.hid (show x = l.getD i dz from hx)
 clear hxg
 have HLZ := Lib.hid hl
 clear hRL hk hl hx hcap e1 e2 ho hi hil
 cases hb : ([1,2,3,4] : List Int).contains (st : Int) with
 | false =>
  have HB := Lib.hid hb
  have HE := Lib.hid (BAD.out (by
   simp only [List.contains_cons, List.contains_nil, Bool.or_false, Bool.or_eq_false_iff, beq_eq_false_iff_ne] at hb
   rw [actE_x HX.out HST.out]
   rw [if_neg (by decide), if_pos (by omega)]))
  clear BAD FIN hso hb hst
  go_enter Try.func75, Try.ntmps75
  go_wp2_with (first | ((with_reducible refine Se.isL (o := ⟨some 6, _, _, _, _, _⟩) ?_); (refine Se.toL rfl (Se.bsv (o := ⟨some 6, _, _, _, _, _⟩) hs rfl Try.underlying59 zsi rfl ([.int .i64 1, .int .i64 2, .int .i64 3, .int .i64 4]) (by rfl) (by rfl) (by decide) (by decide) (by simp [Value.oneCell']) ?_); clear hs; rintro w g6 - hs)) | (go_at_call 90; refine Calls.mono (from_bad hs (CZ.out [_]) (CS.out [_]) HIK.out rfl (Reads.blk 0 rfl) (by decide) HB.out) ?_; clear hs; rintro e w ⟨rfl, hs⟩))
  exact ⟨rfl, trivial, HE.out _ hs.drop⟩
 | true =>
  have HB := Lib.hid hb
  have HCA : Hid (st = 1 ∨ st = 2 ∨ st = 3 ∨ st = 4) := Lib.hid (by
   simp only [List.contains_cons, List.contains_nil, Bool.or_false, Bool.or_eq_true, beq_iff_eq] at hb
   omega)
  have AE : Hid (actE z i 3 = (if opn st = true then (putS z i { x with st := 3 }, 0) else if (opensE z i).2 = 0 then (putS (opensE z i).1 i { x with st := 3 }, 0) else (z, (opensE z i).2))) := Lib.hid (by rw [actE_x HX.out HST.out, if_neg (by decide), if_neg (by have := HCA.out; omega), if_pos rfl])
  have CE : Hid ((ocs l).set (i * 3) (.int .i64 3) = ocs (l.set i { x with st := 3 })) := Lib.hid (by rw [HXG.out]; exact ocs_set l i HIL.out 3)
  obtain ⟨b, hbo⟩ : ∃ b, b = opn x.st := ⟨_, rfl⟩
  have CO : Hid (∀ (L : List At) (w : World), St w0 X L w → Calls Try.prog 63 #[.agg (oc x).toArray] w fun e w' => e = .returned (.bool b) ∧ St w0 X L w') := Lib.hid (fun L w hs => by rw [hbo]; exact open_st hs x)
  have HBO := Lib.hid (show opn st = b by rw [hbo, hst])
  have HOP : Hid (b = false → (opensE z i).1.l.getD i dz = x) := Lib.hid (fun h => by rw [opens_at (by rw [← HX.out, ← HST.out, HBO.out]; exact h), ← HX.out])
  obtain ⟨O, hO⟩ : ∃ O, O = oc x := ⟨_, rfl⟩
  have OL := Lib.hid (show O.length = 3 by rw [hO]; rfl)
  rw [← hO] at HR CO
  have CQ : Hid (∀ (w : World), St w0 X (.blk g 71 RL :: .own 3 (some ga) (some ⟨ga, oa, none⟩) k cc (ocs l) :: L) w → Calls Try.prog 71 #[.pointer (some ⟨g, 0, none⟩), .int .i64 (i : Int)] w fun e' w' => True ∧ ER w0 X L g cc ⟨ga, oa, none⟩ (some ga) (opensE z i) e' w') := Lib.hid (fun w hs => by
   rw [← E12.out.1, ← E12.out.2] at hs
   exact (opens_st hs HO.out HI.out).mono (fun e w' h => ⟨trivial, h.2.er⟩))
  have HOK := Lib.hid (show (opensE z i).1.l.length = k by rw [(HO.out.opens i).2.2.2, ← HKL.out, HLZ.out])
  clear BAD hso hb hst hO hbo
  go_enter Try.func75, Try.ntmps75
  go_upto_region 1 with (first | ((with_reducible refine Se.isL (o := ⟨some 6, _, _, _, _, _⟩) ?_); (refine Se.toL rfl (Se.bsv (o := ⟨some 6, _, _, _, _, _⟩) hs rfl Try.underlying59 zsi rfl ([.int .i64 1, .int .i64 2, .int .i64 3, .int .i64 4]) (by rfl) (by rfl) (by decide) (by decide) (by simp [Value.oneCell']) ?_); clear hs; rintro w g6 - hs)) | (go_at_call 90; refine Calls.mono (from_ok hs (CZ.out [_]) (CS.out [_]) HIK.out rfl (Reads.blk 0 rfl) (by decide) HB.out) ?_; clear hs; rintro e w ⟨rfl, hs⟩))
  replace hs := hs.drop
  go_upto_if 16 with (first | ((with_reducible refine Se.isL (o := ⟨some 11, _, _, _, _, _⟩) ?_); (refine Se.toL rfl (Se.ld (o := ⟨some 11, _, _, _, _, _⟩) hs rfl rfl (Cell.blk 0 rfl R5.out) (by kernel_rfl) ?_))) | ((with_reducible refine Se.isL (o := ⟨some 14, _, _, _, _, _⟩) ?_); (refine Se.toL rfl (Se.ldw (o := ⟨some 14, _, _, _, _, _⟩) hs rfl rfl (HR.out) ((by rw [OL.out]; kernel_rfl)) (by kernel_rfl) ?_))) | (go_at_call 63; refine Calls.mono (CO.out _ _ hs) ?_; clear hs; rintro e w ⟨rfl, hs⟩))
  cases b with
  | true =>
   have HE := Lib.hid (FIN.out { x with st := 3 } (by rw [AE.out, HBO.out, if_pos rfl]))
   clear FIN AE CQ HOP HOK
   go_wp2_with (first | ((with_reducible refine Se.isL (o := ⟨some 23, _, _, _, _, _⟩) ?_); (refine Se.toL rfl (Se.ld (o := ⟨some 23, _, _, _, _, _⟩) hs rfl rfl (Cell.blk 0 rfl R5.out) (by kernel_rfl) ?_))) | ((with_reducible refine Se.isL (o := ⟨none, _, _, _, _, _⟩) ?_); ((first | refine Se.toL rfl (Se.soo 1 (v := .int _ _) hs rfl rfl rfl rfl rfl (by kernel_rfl) (LE0.out) ?_) | refine Se.toL rfl (Se.soo 1 (v := .bool _) hs rfl rfl rfl rfl rfl (by kernel_rfl) (LE0.out) ?_) | refine Se.toL rfl (Se.soo 1 (v := .slice _ _ _) hs rfl rfl rfl rfl rfl (by kernel_rfl) (LE0.out) ?_) | refine Se.toL rfl (Se.soo 1 (v := .pointer _) hs rfl rfl rfl rfl rfl (by kernel_rfl) (LE0.out) ?_) | refine Se.toL rfl (Se.soo 1 (v := .string _) hs rfl rfl rfl rfl rfl (by kernel_rfl) (LE0.out) ?_) | refine Se.toL rfl (Se.soo 1 (v := .map _) hs rfl rfl rfl rfl rfl (by kernel_rfl) (LE0.out) ?_) | refine Se.toL rfl (Se.soo 1 (v := .func _ _ _) hs rfl rfl rfl rfl rfl (by kernel_rfl) (LE0.out) ?_) | refine Se.toL rfl (Se.soo 1 (v := .nilFunc) hs rfl rfl rfl rfl rfl (by kernel_rfl) (LE0.out) ?_)); clear hs; intro w hs; try simp only [List.cons_append, List.nil_append, List.set_cons_zero, List.set_cons_succ] at hs)))
   go_end0
   rw [CE.out] at hs
   first | exact HE.out _ hs | exact ⟨trivial, HE.out _ hs⟩
  | false =>
   have HOP2 := Lib.hid (HOP.out rfl)
   obtain ⟨q, hq⟩ : ∃ q, q = opensE z i := ⟨_, rfl⟩
   rw [← hq] at CQ HOK AE HOP2
   by_cases hq0 : q.2 = 0
   ·have CQ2 : Hid (∀ (w : World), St w0 X (.blk g 71 RL :: .own 3 (some ga) (some ⟨ga, oa, none⟩) k cc (ocs l) :: L) w → Calls Try.prog 71 #[.pointer (some ⟨g, 0, none⟩), .int .i64 (i : Int)] w fun e' w' => e' = .returned (.tuple #[]) ∧ St w0 X (.blk g 71 (zcl q.1 (some ⟨ga, oa, none⟩) cc) :: .own 3 (some ga) (some ⟨ga, oa, none⟩) k cc (ocs q.1.l) :: L) w') := Lib.hid (fun w hs => (CQ.out w hs).mono (by
     rintro e w ⟨_, ⟨_, h1, h2⟩ | ⟨h1, _⟩⟩
     ·refine ⟨h1, ?_⟩
      unfold pL at h2
      rw [HOK.out] at h2
      exact h2
     ·exact absurd hq0 h1))
    have HAE := Lib.hid (show actE z i 3 = (putS q.1 i { q.1.l.getD i dz with st := 3 }, 0) by rw [AE.out, HBO.out, if_neg (by decide), if_pos hq0, HOP2.out])
    have HSL := Lib.hid (show i * 3 < (ocs q.1.l).length by rw [ocs_len, HOK.out]; have := HIK.out; omega)
    obtain ⟨RQ, hRQ⟩ : ∃ R, R = zcl q.1 (some ⟨ga, oa, none⟩) cc := ⟨_, rfl⟩
    have RQ5 := Lib.hid (show RQ[5]? = some (.slice (some ⟨ga, oa, none⟩) k cc) by rw [hRQ, ← HOK.out]; rfl)
    rw [← hRQ] at CQ2
    have HFI : Hid (∀ w, St w0 X (.blk g 71 RQ :: .own 3 (some ga) (some ⟨ga, oa, none⟩) k cc ((ocs q.1.l).set (i * 3) (.int .i64 3)) :: L) w → ER w0 X L g cc ⟨ga, oa, none⟩ (some ga) (actE z i 3) (.returned (.tuple #[])) w) := Lib.hid (fun w hs => by
     rw [HAE.out]
     refine .inl ⟨rfl, rfl, ?_⟩
     rw [pZ_putS, pL_putS (by rw [HOK.out]; exact HIK.out), HOK.out]
     rw [hRQ] at hs
     exact hs)
    clear FIN AE CQ HOP HOK hq hq0 hRQ HOP2 HAE
    go_wp2_with (first | ((with_reducible refine Se.isL (o := ⟨some 23, _, _, _, _, _⟩) ?_); (refine Se.toL rfl (Se.ld (o := ⟨some 23, _, _, _, _, _⟩) hs rfl rfl (Cell.blk 0 rfl RQ5.out) (by kernel_rfl) ?_))) | ((with_reducible refine Se.isL (o := ⟨none, _, _, _, _, _⟩) ?_); ((first | refine Se.toL rfl (Se.soo 1 (v := .int _ _) hs rfl rfl rfl rfl rfl (by kernel_rfl) (HSL.out) ?_) | refine Se.toL rfl (Se.soo 1 (v := .bool _) hs rfl rfl rfl rfl rfl (by kernel_rfl) (HSL.out) ?_) | refine Se.toL rfl (Se.soo 1 (v := .slice _ _ _) hs rfl rfl rfl rfl rfl (by kernel_rfl) (HSL.out) ?_) | refine Se.toL rfl (Se.soo 1 (v := .pointer _) hs rfl rfl rfl rfl rfl (by kernel_rfl) (HSL.out) ?_) | refine Se.toL rfl (Se.soo 1 (v := .string _) hs rfl rfl rfl rfl rfl (by kernel_rfl) (HSL.out) ?_) | refine Se.toL rfl (Se.soo 1 (v := .map _) hs rfl rfl rfl rfl rfl (by kernel_rfl) (HSL.out) ?_) | refine Se.toL rfl (Se.soo 1 (v := .func _ _ _) hs rfl rfl rfl rfl rfl (by kernel_rfl) (HSL.out) ?_) | refine Se.toL rfl (Se.soo 1 (v := .nilFunc) hs rfl rfl rfl rfl rfl (by kernel_rfl) (HSL.out) ?_)); clear hs; intro w hs; try simp only [List.cons_append, List.nil_append, List.set_cons_zero, List.set_cons_succ] at hs)) | (go_at_call 71; refine Calls.mono (CQ2.out _ hs) ?_; clear hs; rintro e w ⟨rfl, hs⟩))
    go_end0
    first | exact HFI.out _ hs | exact ⟨trivial, HFI.out _ hs⟩
   ·have CQ2 : Hid (∀ (w : World), St w0 X (.blk g 71 RL :: .own 3 (some ga) (some ⟨ga, oa, none⟩) k cc (ocs l) :: L) w → Calls Try.prog 71 #[.pointer (some ⟨g, 0, none⟩), .int .i64 (i : Int)] w fun e' w' => e' = .panicked (chS q.2) ∧ ∃ z', St w0 X (pZ g z' (some ⟨ga, oa, none⟩) cc :: pL (some ga) (some ⟨ga, oa, none⟩) cc z' :: L) w') := Lib.hid (fun w hs => (CQ.out w hs).mono (by
     rintro e w ⟨_, ⟨h1, _⟩ | ⟨_, h1, h2⟩⟩
     ·exact absurd h1 hq0
     ·exact ⟨h1, h2⟩))
    have HAE := Lib.hid (show actE z i 3 = (z, q.2) by rw [AE.out, HBO.out, if_neg (by decide), if_neg hq0])
    have HQ0 := Lib.hid hq0
    clear FIN AE CQ HOP HOK hq hq0 HOP2
    go_wp2_with (first | (go_at_call 71; refine Calls.mono (CQ2.out _ hs) ?_; clear hs; rintro e w ⟨rfl, z', hs⟩))
    exact ⟨rfl, trivial, .inr (by rw [HAE.out]; exact ⟨HQ0.out, rfl, z', hs⟩)⟩
end Zo
end Go.Proofs.Ythpgkkfahiglnaa


/- Layer 36: what the laws do at each step. No condition but Go's own limits. -/
import Derived.Test.YtdngfcmakjlamaaStrCalls
import Derived.Test.YtdngfcmakjlamaaStrRNext
import Derived.Test.YtdngfcmakjlamaaStrOpen
set_option linter.unusedSimpArgs false
set_option linter.unusedVariables false
namespace Go.Proofs.Ytdngfcmakjlamaa
open Go Go.RowKit
namespace Sr
open Pd (Fm PDU meas dec framed pc iv fl fv encE)
open Se (St At Reads Cell)
open Li (v8 v8_one Rd Blk Fr)
open Bv (n8 n16 n32 n64)
variable {w0 w : World} {X : List Nat} {L : List At} {s s' : Rc} {g c c2 : Nat} {B B2 : Option Addr} {r : Option Nat}
attribute [local irreducible] Calls
attribute [local go_sem ↓] Bv.add_n8
attribute [local go_sem] Bv.of_n8
theorem one8 : BitVec.ofInt 8 1 = 1#8 := rfl
attribute [local go_sem] one8
abbrev pM (B2 : Option Addr) (s : Rc) : At := .rd B2 (s.b.map v8)
theorem radd_m (M : List At) (hs : St w0 X (M ++ pM B2 s :: L) w) (hc : s.b.length ≤ c2) (x : List (BitVec 8)) {A : Option Addr} {n cx : Nat} (hn : n = x.length) (hx : Reads (M ++ L) A (x.map v8)) (hl : s.b.length ≤ 4194304) (hnl : n ≤ 70368744177664) {e : Nat} (hr : addE s x = (s', e)) :
  Calls Try.prog 45 #[.agg (rcl s B2 c2).toArray, .slice A n cx] w fun e' w' => ∃ RL' B' c', e' = .returned (.tuple #[.agg RL'.toArray, iv e]) ∧ Hid (RL' = rcl s' B' c') ∧ Hid (s'.b.length ≤ c') ∧ St w0 X (M ++ pM B' s' :: L) w' := by
 refine (radd_st (hs.perm (mid1 M)) hc x hn hx hl hnl hr).mono ?_
 rintro e' w' ⟨RL', B', c', h1, h2, h3, h4⟩
 exact ⟨RL', B', c', h1, h2, h3, h4.perm (mid1 M).symm⟩
theorem rnext_m (M : List At) (hs : St w0 X (M ++ pM B2 s :: L) w) (hc : s.b.length ≤ c2) (hl : s.b.length ≤ 4194304) (hnb : s.nb + s.b.length ≤ 70368744177664) (hnp : s.np ≤ 70368744177664) {p : PDU} {e : Nat} (hr : nextE s = (s', p, e)) :
  Calls Try.prog 46 #[.agg (rcl s B2 c2).toArray] w fun e' w' => ∃ RL' B' c' EA ec DA dc PC, e' = .returned (.tuple #[.agg RL'.toArray, .agg PC.toArray, iv e]) ∧ Hid (RL' = rcl s' B' c') ∧ Hid (s'.b.length ≤ c') ∧ Hid (PC = pc p.h EA p.en.length ec DA p.da.length dc) ∧ Hid (Reads (M ++ pM B2 s :: L) EA (p.en.map v8)) ∧ Hid (Reads (M ++ pM B2 s :: L) DA (p.da.map v8)) ∧ St w0 X (pM B' s' :: (M ++ pM B2 s :: L)) w' := by
 refine (rnext_st (hs.perm (mid1 M)) hc hl hnb hnp hr).mono ?_
 rintro e' w' ⟨RL', B', c', EA, ec, DA, dc, PC, h1, h2, h3, h4, h5, h6, h7⟩
 have hm : ∀ a ∈ (.rd B2 (s.b.map v8) :: (M ++ L)), a ∈ M ++ pM B2 s :: L := fun a ha => (mid1 M).symm.subset ha
 exact ⟨RL', B', c', EA, ec, DA, dc, PC, h1, h2, h3, h4, Lib.hid (h5.out.mono hm), Lib.hid (h6.out.mono hm), h7.perm (List.Perm.cons _ (mid1 M).symm)⟩
set_option maxRecDepth 100000 in
set_option maxHeartbeats 4000000 in
theorem looks_m (M : List At) (hs : St w0 X (M ++ pR g s B c :: L) w) {RL : List Value} (hRL : RL = rcl s B2 c2) : Calls Try.prog 24 #[.pointer (some ⟨g, 0, none⟩), .agg RL.toArray] w fun e' w' => e' = .returned (.bool true) ∧ St w0 X (M ++ pR g s B c :: L) w' := by
 obtain ⟨m, hm⟩ : ∃ m, s.b.length = m := ⟨_, rfl⟩
 obtain ⟨a, ha⟩ : ∃ m, s.nb = m := ⟨_, rfl⟩
 obtain ⟨b, hb⟩ : ∃ m, s.np = m := ⟨_, rfl⟩
 have R4 := Lib.hid (show RL[4]? = some (.slice B2 m c2) by rw [hRL, ← hm]; rfl)
 have R6 := Lib.hid (show RL[6]? = some (iv a) by rw [hRL, ← ha]; rfl)
 have R7 := Lib.hid (show RL[7]? = some (iv b) by rw [hRL, ← hb]; rfl)
 have CC : Hid (∀ (M' : List At) (w : World), St w0 X (M' ++ (M ++ pR g s B c :: L)) w → Calls Try.prog 18 #[.pointer (some ⟨g, 0, none⟩)] w fun e w' => e = .returned (.tuple #[iv a, iv b]) ∧ St w0 X (M' ++ (M ++ pR g s B c :: L)) w') := Lib.hid (fun M' w hs => by
  rw [← List.append_assoc] at hs ⊢
  exact consumed_m (M' ++ M) hs ha hb)
 have CH : Hid (∀ (M' : List At) (w : World), St w0 X (M' ++ (M ++ pR g s B c :: L)) w → Calls Try.prog 20 #[.pointer (some ⟨g, 0, none⟩)] w fun e w' => e = .returned (iv m) ∧ St w0 X (M' ++ (M ++ pR g s B c :: L)) w') := Lib.hid (fun M' w hs => by
  rw [← List.append_assoc] at hs ⊢
  exact held_m (M' ++ M) hs hm)
 obtain ⟨LL, hLL⟩ : ∃ LL, LL = M ++ pR g s B c :: L := ⟨_, rfl⟩
 rw [← hLL] at hs CC CH ⊢
 clear hRL hm ha hb hLL
 go_enter Try.func24, Try.ntmps24
 go_upto_region 2 with (first | ((first | with_reducible refine Se.ab hs ?_ | with_reducible refine Se.abc hs ?_); clear hs; (first | (generalize w.heap.size = g3; intro w hs))) | (go_at_call 18; refine Calls.mono (CC.out [_] _ hs) ?_; clear hs; rintro e w ⟨rfl, hs⟩))
 refine Ch.region' 19 (fun wx => Blk wx g3 RL 57) (fun | 1 => true | _ => false) (by kernel_rfl) (by decide +kernel) (hs.drew.hold (.blk g3 57 RL) (by simp)) ?_
 replace hs := hs.drew
 generalize w.drew = w at hs ⊢
 change Ch.CW _ _ _ _ _ [0, 1, 2, 3, 4, 5, 6, 7, 8, 9, 10, 11, 12, 13, 14, 15, 16, 17, 18] _ _
 iterate 1 ((first | (refine Ch.pure (v := ?_) (by rfl) (by rfl) (by rfl) (fun wx hS => ?_) ?_; rotate_left; (focus (go_simp; (first | done | with_reducible rfl))))); (try simp only [Act.put, List.setIfInBounds_toArray, List.set_cons_zero, List.set_cons_succ]))
 refine Ch.noise (by rfl) (by rfl) (by rfl) ?_
 refine Se.gcall (f := 20) (args := #[.pointer (some ⟨g, 0, none⟩)]) ?_ ?_
 ·go_simp
 refine Calls.mono (CH.out [_] _ hs) ?_
 clear hs
 rintro e w ⟨rfl, hs⟩
 refine ⟨_, rfl, hs.hold (.blk g3 57 RL) (by simp), ?_⟩
 (try simp only [Act.put, List.setIfInBounds_toArray, List.set_cons_zero, List.set_cons_succ])
 iterate 17 ((first | (refine Ch.pure (v := ?_) (by rfl) (by rfl) (by rfl) (fun wx hS => ?_) ?_; rotate_left; (focus (go_simp; (first | done | with_reducible rfl)))) | refine Ch.pure (v := _) (by rfl) (by rfl) (by rfl) (fun wx hS => Se.xl rfl rfl (by rw [hS.cell]; exact R4.out) (by decide +kernel)) ?_ | refine Ch.pure (v := _) (by rfl) (by rfl) (by rfl) (fun wx hS => Se.xl rfl rfl (by rw [hS.cell]; exact R6.out) (by decide +kernel)) ?_ | refine Ch.pure (v := _) (by rfl) (by rfl) (by rfl) (fun wx hS => Se.xl rfl rfl (by rw [hS.cell]; exact R7.out) (by decide +kernel)) ?_); (try simp only [Act.put, List.setIfInBounds_toArray, List.set_cons_zero, List.set_cons_succ]))
 refine Ch.done ?_
 try simp only [List.drop_succ_cons, List.drop_zero]
 go_wp2_with fail
 go_ret
 exact ⟨rfl, hs.drop⟩
theorem same_m (hs : St w0 X L w) {p : PDU} {PC QC : List Value} {EA DA EB DB : Option Addr} {ec dc ed dd : Nat} (hP : PC = pc p.h EA p.en.length ec DA p.da.length dc) (hQ : QC = pc p.h EB p.en.length ed DB p.da.length dd) (hE : Reads L EA (p.en.map v8)) (hF : Reads L EB (p.en.map v8)) (hD : Reads L DA (p.da.map v8)) (hG : Reads L DB (p.da.map v8)) :
  Calls Try.prog 26 #[.agg PC.toArray, .agg QC.toArray] w fun e w' => e = .returned (.bool true) ∧ St w0 X L w' := by
 rw [hP, hQ]
 exact Pd.rSame_st hs p.h p.h rfl rfl rfl rfl hE hF hD hG (Pd.same_self p)
set_option maxRecDepth 100000 in
set_option maxRecDepth 100000 in
set_option maxHeartbeats 4000000 in
theorem do1_st (hs : St w0 X (pR g s B c :: pO r B c s :: pM B2 s :: L) w) (hmo : s.mo ≠ 0) (hc : s.b.length ≤ c2) (hl : s.b.length ≤ 4194304) (x : List (BitVec 8)) {XA : Option Addr} {n xc : Nat} (hn : n = x.length) (hx : Reads L XA (x.map v8)) (hnl : n ≤ 4194304) (f : Fm) {e : Nat} (hr : addE s x = (s', e)) :
  Calls Try.prog 23 #[.pointer (some ⟨g, 0, none⟩), .agg (rcl s B2 c2).toArray, .agg (stl 1 XA n xc f).toArray] w fun e' w' => ∃ RL' r' B' c' B2' c2', e' = .returned (.tuple #[.agg RL'.toArray, .bool true]) ∧ Hid (RL' = rcl s' B2' c2') ∧ Hid (s'.b.length ≤ c2') ∧ St w0 X (pR g s' B' c' :: pO r' B' c' s' :: pM B2' s' :: L) w' := by
 obtain ⟨RL, hRL⟩ : ∃ RL, RL = rcl s B2 c2 := ⟨_, rfl⟩
 have RLen := Lib.hid (show RL.length = 8 by rw [hRL]; rfl)
 have RO := Lib.hid (show ∀ v ∈ RL, v.oneCell' = true by rw [hRL]; exact rcl_one _ _ _)
 have HRL := Lib.hid hRL
 have ZRL := Lib.hid (show (rcl { f := ⟨false, false, 0⟩, mo := 0 } none 0).length = 8 from rfl)
 have HC := Lib.hid hc
 obtain ⟨SL, hSL⟩ : ∃ SL, SL = stl 1 XA n xc f := ⟨_, rfl⟩
 have S0 := Lib.hid (show SL[0]? = some (.int .i64 1) by rw [hSL]; rfl)
 have S1 := Lib.hid (show SL[1]? = some (.slice XA n xc) by rw [hSL]; rfl)
 have HX := Lib.hid hx
 have HN := Lib.hid hn
 have CA : Hid (∀ (M : List At) (w : World) (A : Option Addr) (cx : Nat), Reads (M ++ pM B2 s :: L) A (x.map v8) → St w0 X (M ++ pR g s B c :: pO r B c s :: pM B2 s :: L) w → Calls Try.prog 11 #[.pointer (some ⟨g, 0, none⟩), .slice A n cx] w fun e' w' => ∃ r' B' c', e' = .returned (iv e) ∧ St w0 X (M ++ pR g s' B' c' :: pO r' B' c' s' :: pM B2 s :: L) w') := Lib.hid (fun M w A cx hx hs => add_m M hs hmo x hn hx hl (by omega) hr)
 have CB : Hid (∀ (M : List At) (w : World), St w0 X (M ++ pM B2 s :: L) w → Calls Try.prog 45 #[.agg RL.toArray, .slice XA n xc] w fun e' w' => ∃ RL' B' c', e' = .returned (.tuple #[.agg RL'.toArray, iv e]) ∧ Hid (RL' = rcl s' B' c') ∧ Hid (s'.b.length ≤ c') ∧ St w0 X (M ++ pM B' s' :: L) w') := Lib.hid (fun M w hs => by rw [hRL]; exact radd_m M hs hc x hn (hx.app M) hl (by omega) hr)
 rw [← hRL, ← hSL]
 clear hRL hSL hc hn hx hmo hl hr
 go_enter Try.func23, Try.ntmps23
 go_upto_region 3 with (first | ((with_reducible refine Se.isL (o := ⟨some 6, _, _, _, _, _⟩) ?_); (refine Se.toL rfl (Se.al (o := ⟨some 6, _, _, _, _, _⟩) hs rfl (zR) ?_); clear hs; rintro w g6 - hs)) | ((with_reducible refine Se.isL (o := ⟨some 24, _, _, _, _, _⟩) ?_); (refine Se.toL rfl (Se.ld (o := ⟨some 24, _, _, _, _, _⟩) hs rfl rfl (Cell.blk 1 rfl S0.out) (by kernel_rfl) ?_))) | ((first | with_reducible refine Se.ab hs ?_ | with_reducible refine Se.abc hs ?_); clear hs; (first | ((fail_if_success (have _q := g4)); generalize w.heap.size = g4; intro w hs) | (generalize w.heap.size = g5; intro w hs))))
 replace hs := hs.nil_own 1 none
 go_upto_region 4 with (first | ((with_reducible refine Se.isL (o := ⟨some 28, _, _, _, _, _⟩) ?_); (refine Se.toL rfl (Se.ld (o := ⟨some 28, _, _, _, _, _⟩) hs rfl rfl (Cell.blk 2 rfl S1.out) (by kernel_rfl) ?_))) | ((with_reducible refine Se.isL (o := ⟨some 29, _, _, _, _, _⟩) ?_); (refine Se.toL rfl (Se.ap (o := ⟨some 29, _, _, _, _, _⟩) 0 hs rfl rfl rfl rfl ((HX.out.app [_, _, _, _, _, _, _])) Try.underlying24 Pd.u8i3 (rfl) (by decide) ((v8_one _)) ((by rw [List.length_map, HN.out, Nat.mul_one])) ((by omega)) ((by omega)) ?_); clear hs; rintro w r1 A1 c1 hs; try simp only [List.cons_append, List.nil_append, List.set_cons_zero] at hs; try simp only [Nat.zero_add, List.nil_append] at hs; try simp only [Nat.zero_add])))
 go_upto_region 5 with (first | (go_at_call 11; refine Calls.mono (CA.out [_, _, _, _] _ _ _ (Reads.own 0 rfl) hs) ?_; clear hs; rintro e w ⟨r', B', c', rfl, hs⟩))
 clear CA
 go_upto_region 6 with (first | ((with_reducible refine Se.isL (o := ⟨some 34, _, _, _, _, _⟩) ?_); (refine Se.toL rfl (Se.ldw (o := ⟨some 34, _, _, _, _, _⟩) hs rfl rfl ((Reads.blk 3 rfl)) ((by rw [RLen.out]; kernel_rfl)) (by kernel_rfl) ?_))) | ((with_reducible refine Se.isL (o := ⟨some 36, _, _, _, _, _⟩) ?_); (refine Se.toL rfl (Se.ld (o := ⟨some 36, _, _, _, _, _⟩) hs rfl rfl (Cell.blk 2 rfl S1.out) (by kernel_rfl) ?_))) | ((with_reducible refine Se.isL (o := ⟨some 10, _, _, _, _, _⟩) ?_); (refine Se.toL rfl (Se.al (o := ⟨some 10, _, _, _, _, _⟩) hs rfl (zR) ?_); clear hs; rintro w g10 - hs)) | ((with_reducible refine Se.isL (o := ⟨none, _, _, _, _, _⟩) ?_); (refine Se.toL rfl (Se.sow 0 hs rfl rfl rfl rfl ((by rw [HRL2.out]; exact rcl_one _ _ _)) ((by rw [HRL2.out]; kernel_rfl)) ((by rw [HRL2.out]; rfl)) ?_); clear hs; intro w hs; try simp only [List.cons_append, List.nil_append, List.set_cons_zero] at hs)) | (go_at_call 45; refine Calls.mono (CB.out [_, _, _, _, _, _] _ hs) ?_; clear hs; rintro e w ⟨RL2, B2', c2', rfl, HRL2, HC2, hs⟩))
 clear CB
 have R2L := Lib.hid (show RL2.length = 8 by rw [HRL2.out]; rfl)
 have R2O := Lib.hid (show ∀ v ∈ RL2, v.oneCell' = true by rw [HRL2.out]; exact rcl_one _ _ _)
 go_wp2_with fail
 go_loopg [12] n (fun gh s12 wr => ∃ (k : Nat) (es : List (BitVec 8)), gh = n - k ∧ k ≤ n ∧ s12 = .int .i64 (k : Int) ∧ Hid (es.length = n) ∧ St w0 X ([.blk g10 57 RL2, .own 1 r1 A1 n c1 (es.map v8), .blk g6 57 (rcl { f := ⟨false, false, 0⟩, mo := 0 } none 0), .blk g5 61 SL, .blk g4 57 RL, pR g s' B' c', pO r' B' c' s', pM B2' s'] ++ L) wr)
 case atStart => exact ⟨0, x, rfl, by omega, rfl, Lib.hid HN.out.symm, hs⟩
 case round =>
  clear hs
  rename World => w
  obtain ⟨k, es, rfl, hk, rfl, HES, hs⟩ := hrel
  by_cases hlt : k < n
  ·have hlt' : (k : Int) < (n : Int) := by omega
   obtain ⟨ga, oa, rfl, rfl⟩ := hs.own_at 1 rfl (by omega)
   have HV := Lib.hid (show (es.map v8)[k]? = some (.int .u8 (n8 (es.getD k 0#8))) from Pd.v8_at es k (by rw [HES.out]; exact hlt))
   have HLL := Lib.hid (show k < (es.map v8).length by rw [List.length_map, HES.out]; exact hlt)
   obtain ⟨y, hy⟩ : ∃ y, y = es.getD k 0#8 := ⟨_, rfl⟩
   rw [← hy] at HV
   clear hy
   go_wp2_with (first | ((with_reducible refine Se.isL (o := ⟨some 51, _, _, _, _, _⟩) ?_); (refine Se.toL rfl (Se.ld (o := ⟨some 51, _, _, _, _, _⟩) hs rfl rfl (((Reads.own 1 rfl).cell k HV.out)) (by kernel_rfl) ?_))) | ((with_reducible refine Se.isL (o := ⟨none, _, _, _, _, _⟩) ?_); ((first | refine Se.toL rfl (Se.soo 1 (v := .int _ _) hs rfl rfl rfl rfl rfl (by kernel_rfl) (HLL.out) ?_) | refine Se.toL rfl (Se.soo 1 (v := .bool _) hs rfl rfl rfl rfl rfl (by kernel_rfl) (HLL.out) ?_) | refine Se.toL rfl (Se.soo 1 (v := .slice _ _ _) hs rfl rfl rfl rfl rfl (by kernel_rfl) (HLL.out) ?_) | refine Se.toL rfl (Se.soo 1 (v := .pointer _) hs rfl rfl rfl rfl rfl (by kernel_rfl) (HLL.out) ?_) | refine Se.toL rfl (Se.soo 1 (v := .string _) hs rfl rfl rfl rfl rfl (by kernel_rfl) (HLL.out) ?_) | refine Se.toL rfl (Se.soo 1 (v := .map _) hs rfl rfl rfl rfl rfl (by kernel_rfl) (HLL.out) ?_) | refine Se.toL rfl (Se.soo 1 (v := .func _ _ _) hs rfl rfl rfl rfl rfl (by kernel_rfl) (HLL.out) ?_) | refine Se.toL rfl (Se.soo 1 (v := .nilFunc) hs rfl rfl rfl rfl rfl (by kernel_rfl) (HLL.out) ?_)); clear hs; intro w hs; try simp only [List.cons_append, List.nil_append, List.set_cons_zero, List.set_cons_succ] at hs)))
   go_roundg (n - (k + 1))
   case measure => omega
   case rel => exact ⟨k + 1, es.set k (y + 1#8), rfl, by omega, by go_num, Lib.hid (by rw [List.length_set]; exact HES.out), by rw [List.map_set]; exact hs⟩
  ·have ek : n = k := by omega
   subst ek
   simp only [List.cons_append, List.nil_append] at hs
   clear HES
   go_upto_region 10 with (fail)
   refine Ch.region' 11 (fun wx => Blk wx g10 RL2 57) (fun | 7 => true | 9 => true | _ => false) (by kernel_rfl) (by decide +kernel) (hs.drew.hold (.blk g10 57 RL2) (by simp)) ?_
   replace hs := hs.drew
   generalize w.drew = w at hs ⊢
   change Ch.CW _ _ _ _ _ [0, 1, 2, 3, 4, 5, 6, 7, 8, 9, 10] _ _
   iterate 7 ((first | (refine Ch.pure (v := ?_) (by rfl) (by rfl) (by rfl) (fun wx hS => ?_) ?_; rotate_left; (focus (go_simp; (first | done | with_reducible rfl)))) | refine Ch.pure (v := _) (by rfl) (by rfl) (by rfl) (fun wx hS => Se.xla rfl rfl (Li.Rd.of_blk hS) (by rw [R2L.out] <;> kernel_rfl) (by kernel_rfl)) ?_); (try simp only [Act.put, List.setIfInBounds_toArray, List.set_cons_zero, List.set_cons_succ]))
   refine Ch.noise (by rfl) (by rfl) (by rfl) ?_
   refine Se.gcall (f := 24) (args := #[.pointer (some ⟨g, 0, none⟩), .agg RL2.toArray]) ?_ ?_
   ·go_simp
   refine Calls.mono (looks_m [_, _, _, _, _] hs HRL2.out) ?_
   clear hs
   rintro e w ⟨rfl, hs⟩
   refine ⟨_, rfl, hs.hold (.blk g10 57 RL2) (by simp), ?_⟩
   (try simp only [Act.put, List.setIfInBounds_toArray, List.set_cons_zero, List.set_cons_succ])
   iterate 1 ((first | (refine Ch.pure (v := ?_) (by rfl) (by rfl) (by rfl) (fun wx hS => ?_) ?_; rotate_left; (focus (go_simp; (first | done | with_reducible rfl))))); (try simp only [Act.put, List.setIfInBounds_toArray, List.set_cons_zero, List.set_cons_succ]))
   refine Ch.noise (by rfl) (by rfl) (by rfl) (Se.sow 2 (vs := RL2) hs rfl rfl rfl rfl R2O.out (by rw [R2L.out] <;> kernel_rfl) (by rw [R2L.out, ZRL.out]) ?_)
   clear hs
   intro w hs
   simp only [List.cons_append, List.nil_append, List.set_cons_zero, List.set_cons_succ] at hs
   refine ⟨hs.hold (.blk g10 57 RL2) (by simp), ?_⟩
   (try simp only [Act.put, List.setIfInBounds_toArray, List.set_cons_zero, List.set_cons_succ])
   iterate 1 ((first | (refine Ch.pure (v := ?_) (by rfl) (by rfl) (by rfl) (fun wx hS => ?_) ?_; rotate_left; (focus (go_simp; (first | done | with_reducible rfl))))); (try simp only [Act.put, List.setIfInBounds_toArray, List.set_cons_zero, List.set_cons_succ]))
   refine Ch.done ?_
   try simp only [List.drop_succ_cons, List.drop_zero]
   go_wp2_with fail
   refine Se.ret hs [.agg RL2.toArray, .bool true] rfl ⟨Se.resRow rfl (Reads.blk 2 rfl) (by kernel_rfl) (by rw [R2L.out] <;> kernel_rfl), rfl, trivial⟩ (by simp) rfl ?_
   exact ⟨RL2, r', B', c', B2', c2', rfl, HRL2, HC2, hs.drop.drop.drop.drop.drop⟩
set_option maxRecDepth 100000 in
set_option maxRecDepth 100000 in
set_option maxHeartbeats 4000000 in
theorem do2_st (hs : St w0 X (pR g s B c :: pO r B c s :: pM B2 s :: L) w) (hmo : s.mo ≠ 0) (hc : s.b.length ≤ c2) (hl : s.b.length ≤ 4194304) (hnb : s.nb + s.b.length ≤ 70368744177664) (hnp : s.np ≤ 70368744177664) (XA : Option Addr) (n xc : Nat) (f : Fm) {p : PDU} {e : Nat} (hr : nextE s = (s', p, e)) (hpl : p.da.length ≤ 4194304) :
  Calls Try.prog 23 #[.pointer (some ⟨g, 0, none⟩), .agg (rcl s B2 c2).toArray, .agg (stl 2 XA n xc f).toArray] w fun e' w' => ∃ RL' r' B' c' B2' c2', e' = .returned (.tuple #[.agg RL'.toArray, .bool true]) ∧ Hid (RL' = rcl s' B2' c2') ∧ Hid (s'.b.length ≤ c2') ∧ St w0 X (pR g s' B' c' :: pO r' B' c' s' :: pM B2' s' :: L) w' := by
 obtain ⟨RL, hRL⟩ : ∃ RL, RL = rcl s B2 c2 := ⟨_, rfl⟩
 have RLen := Lib.hid (show RL.length = 8 by rw [hRL]; rfl)
 have RO := Lib.hid (show ∀ v ∈ RL, v.oneCell' = true by rw [hRL]; exact rcl_one _ _ _)
 have HRL := Lib.hid hRL
 have ZRL := Lib.hid (show (rcl { f := ⟨false, false, 0⟩, mo := 0 } none 0).length = 8 from rfl)
 have HC := Lib.hid hc
 obtain ⟨SL, hSL⟩ : ∃ SL, SL = stl 2 XA n xc f := ⟨_, rfl⟩
 obtain ⟨dn, hdn⟩ : ∃ dn, dn = p.da.length := ⟨_, rfl⟩
 have S0 := Lib.hid (show SL[0]? = some (.int .i64 2) by rw [hSL]; rfl)
 have HZ := Lib.hid zP0
 have HDN := Lib.hid hdn
 have CA : Hid (∀ (M : List At) (w : World), St w0 X (M ++ pR g s B c :: pO r B c s :: pM B2 s :: L) w → Calls Try.prog 19 #[.pointer (some ⟨g, 0, none⟩)] w fun e' w' => ∃ r1 EA ec r2 DA dc PC r' B' c', e' = .returned (.tuple #[.agg PC.toArray, iv e]) ∧ Hid (PC = pc p.h EA p.en.length ec DA p.da.length dc) ∧ St w0 X (.own 1 r1 EA p.en.length ec (p.en.map v8) :: .own 1 r2 DA dn dc (p.da.map v8) :: (M ++ pR g s' B' c' :: pO r' B' c' s' :: pM B2 s :: L)) w') := Lib.hid (fun M w hs => by rw [hdn]; exact next_m M hs hmo hl hnb hnp hr)
 have CB : Hid (∀ (M : List At) (w : World), St w0 X (M ++ pM B2 s :: L) w → Calls Try.prog 46 #[.agg RL.toArray] w fun e' w' => ∃ RL' B' c' EA ec DA dc PC, e' = .returned (.tuple #[.agg RL'.toArray, .agg PC.toArray, iv e]) ∧ Hid (RL' = rcl s' B' c') ∧ Hid (s'.b.length ≤ c') ∧ Hid (PC = pc p.h EA p.en.length ec DA p.da.length dc) ∧ Hid (Reads (M ++ pM B2 s :: L) EA (p.en.map v8)) ∧ Hid (Reads (M ++ pM B2 s :: L) DA (p.da.map v8)) ∧ St w0 X (pM B' s' :: (M ++ pM B2 s :: L)) w') := Lib.hid (fun M w hs => by rw [hRL]; exact rnext_m M hs hc hl hnb hnp hr)
 have CS : Hid (∀ (M : List At) (w : World) (PC QC : List Value) (EA DA EB DB : Option Addr) (ec dc ed dd : Nat), Hid (PC = pc p.h EA p.en.length ec DA p.da.length dc) → Hid (QC = pc p.h EB p.en.length ed DB p.da.length dd) → Reads M EA (p.en.map v8) → Reads M EB (p.en.map v8) → Reads M DA (p.da.map v8) → Reads M DB (p.da.map v8) → St w0 X M w → Calls Try.prog 26 #[.agg PC.toArray, .agg QC.toArray] w fun e w' => e = .returned (.bool true) ∧ St w0 X M w') := Lib.hid (fun M w PC QC EA DA EB DB ec dc ed dd h1 h2 h3 h4 h5 h6 hs => same_m hs h1.out h2.out h3 h4 h5 h6)
 rw [← hdn] at hpl
 rw [← hRL, ← hSL]
 clear hRL hSL hc hmo hl hnb hnp hr hdn
 go_enter Try.func23, Try.ntmps23
 go_upto_region 12 with (first | ((with_reducible refine Se.isL (o := ⟨some 6, _, _, _, _, _⟩) ?_); (refine Se.toL rfl (Se.al (o := ⟨some 6, _, _, _, _, _⟩) hs rfl (zR) ?_); clear hs; rintro w g6 - hs)) | ((with_reducible refine Se.isL (o := ⟨some 24, _, _, _, _, _⟩) ?_); (refine Se.toL rfl (Se.ld (o := ⟨some 24, _, _, _, _, _⟩) hs rfl rfl (Cell.blk 1 rfl S0.out) (by kernel_rfl) ?_))) | ((first | with_reducible refine Se.ab hs ?_ | with_reducible refine Se.abc hs ?_); clear hs; (first | ((fail_if_success (have _q := g4)); generalize w.heap.size = g4; intro w hs) | (generalize w.heap.size = g5; intro w hs))))
 go_upto_region 13 with (first | ((with_reducible refine Se.isL (o := ⟨some 13, _, _, _, _, _⟩) ?_); (refine Se.toL rfl (Se.al (o := ⟨some 13, _, _, _, _, _⟩) hs rfl (HZ.out) ?_); clear hs; rintro w g13 - hs)) | ((with_reducible refine Se.isL (o := ⟨none, _, _, _, _, _⟩) ?_); (refine Se.toL rfl (Se.sow 0 hs rfl rfl rfl rfl ((by exact (pcl _ HPC.out).2)) ((by rw [(pcl _ HPC.out).1]; kernel_rfl)) ((by rw [(pcl _ HPC.out).1]; rfl)) ?_); clear hs; intro w hs; try simp only [List.cons_append, List.nil_append, List.set_cons_zero] at hs)) | (go_at_call 19; refine Calls.mono (CA.out [_, _, _] _ hs) ?_; clear hs; rintro e w ⟨r1, EA, ec, r2, DA, dc, PC, r', B', c', rfl, HPC, hs⟩))
 have PCL := Lib.hid (pcl PC HPC.out).1
 have P13 := Lib.hid (show PC[13]? = some (.slice DA dn dc) by rw [HPC.out, HDN.out]; rfl)
 clear CA
 go_upto_region 14 with (first | ((with_reducible refine Se.isL (o := ⟨some 71, _, _, _, _, _⟩) ?_); (refine Se.toL rfl (Se.ldw (o := ⟨some 71, _, _, _, _, _⟩) hs rfl rfl ((Reads.blk 5 rfl)) ((by rw [RLen.out]; kernel_rfl)) (by kernel_rfl) ?_))) | ((with_reducible refine Se.isL (o := ⟨some 15, _, _, _, _, _⟩) ?_); (refine Se.toL rfl (Se.al (o := ⟨some 15, _, _, _, _, _⟩) hs rfl (zR) ?_); clear hs; rintro w g15 - hs)) | ((with_reducible refine Se.isL (o := ⟨some 16, _, _, _, _, _⟩) ?_); (refine Se.toL rfl (Se.al (o := ⟨some 16, _, _, _, _, _⟩) hs rfl (HZ.out) ?_); clear hs; rintro w g16 - hs)) | ((with_reducible refine Se.isL (o := ⟨none, Op.store 57 _ _, _, _, _, _⟩) ?_); (refine Se.toL rfl (Se.sow 1 hs rfl rfl rfl rfl ((by rw [HRL2.out]; exact rcl_one _ _ _)) ((by rw [HRL2.out]; kernel_rfl)) ((by rw [HRL2.out]; rfl)) ?_); clear hs; intro w hs; try simp only [List.cons_append, List.nil_append, List.set_cons_zero, List.set_cons_succ] at hs)) | ((with_reducible refine Se.isL (o := ⟨none, Op.store 41 _ _, _, _, _, _⟩) ?_); (refine Se.toL rfl (Se.sow 0 hs rfl rfl rfl rfl ((by exact (pcl _ HQC.out).2)) ((by rw [(pcl _ HQC.out).1]; kernel_rfl)) ((by rw [(pcl _ HQC.out).1]; rfl)) ?_); clear hs; intro w hs; try simp only [List.cons_append, List.nil_append, List.set_cons_zero] at hs)) | (go_at_call 46; refine Calls.mono (CB.out [_, _, _, _, _, _, _, _] _ hs) ?_; clear hs; rintro e w ⟨RL2, B2', c2', EB, ed, DB, dd, QC, rfl, HRL2, HC2, HQC, RE, RD, hs⟩))
 have R2L := Lib.hid (show RL2.length = 8 by rw [HRL2.out]; rfl)
 have R2O := Lib.hid (show ∀ v ∈ RL2, v.oneCell' = true by rw [HRL2.out]; exact rcl_one _ _ _)
 have QCL := Lib.hid (pcl QC HQC.out).1
 have RE2 := Lib.hid (RE.out.app [pM B2' s', .blk g15 57 RL2, .blk g16 41 QC])
 clear CB
 go_upto_region 15 with (first | ((with_reducible refine Se.isL (o := ⟨some 76, _, _, _, _, _⟩) ?_); (refine Se.toL rfl (Se.ldw (o := ⟨some 76, _, _, _, _, _⟩) hs rfl rfl ((Reads.blk 3 rfl)) ((by rw [PCL.out]; kernel_rfl)) (by kernel_rfl) ?_))) | ((with_reducible refine Se.isL (o := ⟨some 77, _, _, _, _, _⟩) ?_); (refine Se.toL rfl (Se.ldw (o := ⟨some 77, _, _, _, _, _⟩) hs rfl rfl ((Reads.blk 0 rfl)) ((by rw [QCL.out]; kernel_rfl)) (by kernel_rfl) ?_))) | (go_at_call 26; refine Calls.mono (CS.out _ _ _ _ _ _ _ _ _ _ _ _ HPC HQC (Reads.own 4 rfl) (RE.out.app [_, _, _]) (Reads.own 5 rfl) (RD.out.app [_, _, _]) hs) ?_; clear hs; rintro e w ⟨rfl, hs⟩))
 clear CS RE RD RE2 HQC QCL HPC
 go_wp2_with fail
 go_loopg [19] dn (fun gh s19 wr => ∃ (k : Nat) (es : List (BitVec 8)), gh = dn - k ∧ k ≤ dn ∧ s19 = .int .i64 (k : Int) ∧ Hid (es.length = dn) ∧ St w0 X ([.blk g16 41 QC, .blk g15 57 RL2, pM B2' s', .blk g13 41 PC, .own 1 r1 EA p.en.length ec (p.en.map v8), .own 1 r2 DA dn dc (es.map v8), .blk g6 57 (rcl { f := ⟨false, false, 0⟩, mo := 0 } none 0), .blk g5 61 SL, .blk g4 57 RL, pR g s' B' c', pO r' B' c' s', pM B2 s] ++ L) wr)
 case atStart => exact ⟨0, p.da, rfl, by omega, rfl, Lib.hid HDN.out.symm, hs⟩
 case round =>
  clear hs
  rename World => w
  obtain ⟨k, es, rfl, hk, rfl, HES, hs⟩ := hrel
  by_cases hlt : k < dn
  ·have hlt' : (k : Int) < (dn : Int) := by omega
   obtain ⟨ga, oa, rfl, rfl⟩ := hs.own_at 5 rfl (by omega)
   have HLL := Lib.hid (show k < (es.map v8).length by rw [List.length_map, HES.out]; exact hlt)
   go_wp2_with (first | ((with_reducible refine Se.isL (o := ⟨some 86, _, _, _, _, _⟩) ?_); (refine Se.toL rfl (Se.ld (o := ⟨some 86, _, _, _, _, _⟩) hs rfl rfl (Cell.blk 3 rfl P13.out) (by kernel_rfl) ?_))) | ((with_reducible refine Se.isL (o := ⟨some 92, _, _, _, _, _⟩) ?_); (refine Se.toL rfl (Se.ld (o := ⟨some 92, _, _, _, _, _⟩) hs rfl rfl (Cell.blk 3 rfl P13.out) (by kernel_rfl) ?_))) | ((with_reducible refine Se.isL (o := ⟨none, _, _, _, _, _⟩) ?_); ((first | refine Se.toL rfl (Se.soo 5 (v := .int _ _) hs rfl rfl rfl rfl rfl (by kernel_rfl) (HLL.out) ?_) | refine Se.toL rfl (Se.soo 5 (v := .bool _) hs rfl rfl rfl rfl rfl (by kernel_rfl) (HLL.out) ?_) | refine Se.toL rfl (Se.soo 5 (v := .slice _ _ _) hs rfl rfl rfl rfl rfl (by kernel_rfl) (HLL.out) ?_) | refine Se.toL rfl (Se.soo 5 (v := .pointer _) hs rfl rfl rfl rfl rfl (by kernel_rfl) (HLL.out) ?_) | refine Se.toL rfl (Se.soo 5 (v := .string _) hs rfl rfl rfl rfl rfl (by kernel_rfl) (HLL.out) ?_) | refine Se.toL rfl (Se.soo 5 (v := .map _) hs rfl rfl rfl rfl rfl (by kernel_rfl) (HLL.out) ?_) | refine Se.toL rfl (Se.soo 5 (v := .func _ _ _) hs rfl rfl rfl rfl rfl (by kernel_rfl) (HLL.out) ?_) | refine Se.toL rfl (Se.soo 5 (v := .nilFunc) hs rfl rfl rfl rfl rfl (by kernel_rfl) (HLL.out) ?_)); clear hs; intro w hs; try simp only [List.cons_append, List.nil_append, List.set_cons_zero, List.set_cons_succ] at hs)))
   go_roundg (dn - (k + 1))
   case measure => omega
   case rel => exact ⟨k + 1, es.set k 9#8, rfl, by omega, by go_num, Lib.hid (by rw [List.length_set]; exact HES.out), by rw [List.map_set]; exact hs⟩
  ·have ek : dn = k := by omega
   subst ek
   simp only [List.cons_append, List.nil_append] at hs
   clear HES
   go_upto_region 19 with (first | ((with_reducible refine Se.isL (o := ⟨some 86, _, _, _, _, _⟩) ?_); (refine Se.toL rfl (Se.ld (o := ⟨some 86, _, _, _, _, _⟩) hs rfl rfl (Cell.blk 3 rfl P13.out) (by kernel_rfl) ?_))))
   refine Ch.region' 9 (fun wx => Blk wx g15 RL2 57) (fun | 5 => true | 7 => true | _ => false) (by kernel_rfl) (by decide +kernel) (hs.drew.hold (.blk g15 57 RL2) (by simp)) ?_
   replace hs := hs.drew
   generalize w.drew = w at hs ⊢
   change Ch.CW _ _ _ _ _ [0, 1, 2, 3, 4, 5, 6, 7, 8] _ _
   iterate 5 ((first | (refine Ch.pure (v := ?_) (by rfl) (by rfl) (by rfl) (fun wx hS => ?_) ?_; rotate_left; (focus (go_simp; (first | done | with_reducible rfl)))) | refine Ch.pure (v := _) (by rfl) (by rfl) (by rfl) (fun wx hS => Se.xla rfl rfl (Li.Rd.of_blk hS) (by rw [R2L.out] <;> kernel_rfl) (by kernel_rfl)) ?_); (try simp only [Act.put, List.setIfInBounds_toArray, List.set_cons_zero, List.set_cons_succ]))
   refine Ch.noise (by rfl) (by rfl) (by rfl) ?_
   refine Se.gcall (f := 24) (args := #[.pointer (some ⟨g, 0, none⟩), .agg RL2.toArray]) ?_ ?_
   ·go_simp
   refine Calls.mono (looks_m [_, _, _, _, _, _, _, _, _] hs HRL2.out) ?_
   clear hs
   rintro e w ⟨rfl, hs⟩
   refine ⟨_, rfl, hs.hold (.blk g15 57 RL2) (by simp), ?_⟩
   (try simp only [Act.put, List.setIfInBounds_toArray, List.set_cons_zero, List.set_cons_succ])
   iterate 1 ((first | (refine Ch.pure (v := ?_) (by rfl) (by rfl) (by rfl) (fun wx hS => ?_) ?_; rotate_left; (focus (go_simp; (first | done | with_reducible rfl))))); (try simp only [Act.put, List.setIfInBounds_toArray, List.set_cons_zero, List.set_cons_succ]))
   refine Ch.noise (by rfl) (by rfl) (by rfl) (Se.sow 6 (vs := RL2) hs rfl rfl rfl rfl R2O.out (by rw [R2L.out] <;> kernel_rfl) (by rw [R2L.out, ZRL.out]) ?_)
   clear hs
   intro w hs
   simp only [List.cons_append, List.nil_append, List.set_cons_zero, List.set_cons_succ] at hs
   refine ⟨hs.hold (.blk g15 57 RL2) (by simp), ?_⟩
   (try simp only [Act.put, List.setIfInBounds_toArray, List.set_cons_zero, List.set_cons_succ])
   iterate 1 ((first | (refine Ch.pure (v := ?_) (by rfl) (by rfl) (by rfl) (fun wx hS => ?_) ?_; rotate_left; (focus (go_simp; (first | done | with_reducible rfl))))); (try simp only [Act.put, List.setIfInBounds_toArray, List.set_cons_zero, List.set_cons_succ]))
   refine Ch.done ?_
   try simp only [List.drop_succ_cons, List.drop_zero]
   go_wp2_with fail
   refine Se.ret hs [.agg RL2.toArray, .bool true] rfl ⟨Se.resRow rfl (Reads.blk 6 rfl) (by kernel_rfl) (by rw [R2L.out] <;> kernel_rfl), rfl, trivial⟩ (by simp) rfl ?_
   refine ⟨RL2, r', B', c', B2', c2', rfl, HRL2, HC2, ?_⟩
   replace hs := hs.pull 11 rfl
   replace hs := hs.pull 9 rfl
   replace hs := hs.pull 9 rfl
   replace hs := hs.pull 9 rfl
   replace hs := hs.pull 9 rfl
   replace hs := hs.pull 9 rfl
   replace hs := hs.pull 9 rfl
   replace hs := hs.pull 8 rfl
   replace hs := hs.pull 8 rfl
   replace hs := hs.pull 9 rfl
   replace hs := hs.pull 11 rfl
   replace hs := hs.pull 11 rfl
   simp only [List.eraseIdx_cons_succ, List.eraseIdx_cons_zero] at hs
   exact hs.sub (List.Sublist.cons_cons _ (List.Sublist.cons_cons _ (List.Sublist.cons_cons _ (.cons _ (.cons _ (.cons _ (.cons _ (.cons _ (.cons _ (.cons _ (.cons _ (.cons _ (List.Sublist.refl _)))))))))))))
set_option maxRecDepth 100000 in
set_option maxRecDepth 100000 in
set_option maxHeartbeats 4000000 in
theorem do3_st (hs : St w0 X (pR g s B c :: pO r B c s :: pM B2 s :: L) w) (hmo : s.mo ≠ 0) (hc : s.b.length ≤ c2) (XA : Option Addr) (n xc : Nat) (f : Fm) {e : Nat} (hr : refE s f = (s', e)) :
  Calls Try.prog 23 #[.pointer (some ⟨g, 0, none⟩), .agg (rcl s B2 c2).toArray, .agg (stl 3 XA n xc f).toArray] w fun e' w' => ∃ RL' r' B' c' B2' c2', e' = .returned (.tuple #[.agg RL'.toArray, .bool true]) ∧ Hid (RL' = rcl s' B2' c2') ∧ Hid (s'.b.length ≤ c2') ∧ St w0 X (pR g s' B' c' :: pO r' B' c' s' :: pM B2' s' :: L) w' := by
 obtain ⟨RL, hRL⟩ : ∃ RL, RL = rcl s B2 c2 := ⟨_, rfl⟩
 have RLen := Lib.hid (show RL.length = 8 by rw [hRL]; rfl)
 have RO := Lib.hid (show ∀ v ∈ RL, v.oneCell' = true by rw [hRL]; exact rcl_one _ _ _)
 have HRL := Lib.hid hRL
 have ZRL := Lib.hid (show (rcl { f := ⟨false, false, 0⟩, mo := 0 } none 0).length = 8 from rfl)
 have HC := Lib.hid hc
 obtain ⟨SL, hSL⟩ : ∃ SL, SL = stl 3 XA n xc f := ⟨_, rfl⟩
 obtain ⟨F, hF⟩ : ∃ F, F = fl f := ⟨_, rfl⟩
 have FL := Lib.hid (show F.length = 3 by rw [hF]; rfl)
 have S0 := Lib.hid (show SL[0]? = some (.int .i64 3) by rw [hSL]; rfl)
 have SF := Lib.hid (show SL.drop 2 = F by rw [hSL, hF]; rfl)
 have hb : s'.b = s.b := by
  unfold refE at hr
  repeat' split at hr
  all_goals (cases hr; rfl)
 have HB := Lib.hid hb
 have CA : Hid (∀ (M : List At) (w : World), St w0 X (M ++ pR g s B c :: pO r B c s :: pM B2 s :: L) w → Calls Try.prog 27 #[.pointer (some ⟨g, 0, none⟩), .agg F.toArray] w fun e' w' => e' = .returned (iv e) ∧ St w0 X (M ++ pR g s' B c :: pO r B c s' :: pM B2 s' :: L) w') := Lib.hid (fun M w hs => by
  rw [hF, ← Pd.fv_eq, show pM B2 s' = pM B2 s by unfold pM; rw [hb]]
  exact reframe_m M hs hmo f hr)
 have CB : Hid (∀ (M : List At) (w : World), St w0 X M w → Calls Try.prog 47 #[.agg RL.toArray, .agg F.toArray] w fun e' w' => ∃ RL', e' = .returned (.tuple #[.agg RL'.toArray, iv e]) ∧ Hid (RL' = rcl s' B2 c2) ∧ St w0 X M w') := Lib.hid (fun M w hs => by rw [hRL, hF, ← Pd.fv_eq]; exact rreframe_st hs f hr)
 have RDS : Hid (∀ (M : List At) (g5 : Nat) (T : TypeId), Reads (.blk g5 T SL :: M) (some ⟨g5, 2, none⟩) F) := Lib.hid (fun M g5 T => by
  have h1 := (Reads.blk (L := .blk g5 T SL :: M) 0 rfl).at 2
  rwa [SF.out] at h1)
 rw [← hRL, ← hSL]
 clear hRL hSL hF hc hmo hr hb
 go_enter Try.func23, Try.ntmps23
 go_upto_region 21 with (first | ((with_reducible refine Se.isL (o := ⟨some 6, _, _, _, _, _⟩) ?_); (refine Se.toL rfl (Se.al (o := ⟨some 6, _, _, _, _, _⟩) hs rfl (zR) ?_); clear hs; rintro w g6 - hs)) | ((with_reducible refine Se.isL (o := ⟨some 24, _, _, _, _, _⟩) ?_); (refine Se.toL rfl (Se.ld (o := ⟨some 24, _, _, _, _, _⟩) hs rfl rfl (Cell.blk 1 rfl S0.out) (by kernel_rfl) ?_))) | ((first | with_reducible refine Se.ab hs ?_ | with_reducible refine Se.abc hs ?_); clear hs; (first | ((fail_if_success (have _q := g4)); generalize w.heap.size = g4; intro w hs) | (generalize w.heap.size = g5; intro w hs))))
 go_upto_region 22 with (first | ((with_reducible refine Se.isL (o := ⟨some 106, _, _, _, _, _⟩) ?_); (refine Se.toL rfl (Se.ldw (o := ⟨some 106, _, _, _, _, _⟩) hs rfl rfl (((RDS.out _ _ _).app [_])) ((by rw [FL.out]; kernel_rfl)) (by kernel_rfl) ?_))) | (go_at_call 27; refine Calls.mono (CA.out [_, _, _] _ hs) ?_; clear hs; rintro e w ⟨rfl, hs⟩))
 clear CA
 go_upto_region 23 with (first | ((with_reducible refine Se.isL (o := ⟨some 109, _, _, _, _, _⟩) ?_); (refine Se.toL rfl (Se.ldw (o := ⟨some 109, _, _, _, _, _⟩) hs rfl rfl ((Reads.blk 2 rfl)) ((by rw [RLen.out]; kernel_rfl)) (by kernel_rfl) ?_))) | ((with_reducible refine Se.isL (o := ⟨some 111, _, _, _, _, _⟩) ?_); (refine Se.toL rfl (Se.ldw (o := ⟨some 111, _, _, _, _, _⟩) hs rfl rfl (((RDS.out _ _ _).app [_])) ((by rw [FL.out]; kernel_rfl)) (by kernel_rfl) ?_))) | ((with_reducible refine Se.isL (o := ⟨some 21, _, _, _, _, _⟩) ?_); (refine Se.toL rfl (Se.al (o := ⟨some 21, _, _, _, _, _⟩) hs rfl (zR) ?_); clear hs; rintro w g21 - hs)) | ((with_reducible refine Se.isL (o := ⟨none, _, _, _, _, _⟩) ?_); (refine Se.toL rfl (Se.sow 0 hs rfl rfl rfl rfl ((by rw [HRL2.out]; exact rcl_one _ _ _)) ((by rw [HRL2.out]; kernel_rfl)) ((by rw [HRL2.out]; rfl)) ?_); clear hs; intro w hs; try simp only [List.cons_append, List.nil_append, List.set_cons_zero] at hs)) | (go_at_call 47; refine Calls.mono (CB.out _ _ hs) ?_; clear hs; rintro e w ⟨RL2, rfl, HRL2, hs⟩))
 clear CB
 have R2L := Lib.hid (show RL2.length = 8 by rw [HRL2.out]; rfl)
 have R2O := Lib.hid (show ∀ v ∈ RL2, v.oneCell' = true by rw [HRL2.out]; exact rcl_one _ _ _)
 refine Ch.region' 11 (fun wx => Blk wx g21 RL2 57) (fun | 7 => true | 9 => true | _ => false) (by kernel_rfl) (by decide +kernel) (hs.drew.hold (.blk g21 57 RL2) (by simp)) ?_
 replace hs := hs.drew
 generalize w.drew = w at hs ⊢
 change Ch.CW _ _ _ _ _ [0, 1, 2, 3, 4, 5, 6, 7, 8, 9, 10] _ _
 iterate 7 ((first | (refine Ch.pure (v := ?_) (by rfl) (by rfl) (by rfl) (fun wx hS => ?_) ?_; rotate_left; (focus (go_simp; (first | done | with_reducible rfl)))) | refine Ch.pure (v := _) (by rfl) (by rfl) (by rfl) (fun wx hS => Se.xla rfl rfl (Li.Rd.of_blk hS) (by rw [R2L.out] <;> kernel_rfl) (by kernel_rfl)) ?_); (try simp only [Act.put, List.setIfInBounds_toArray, List.set_cons_zero, List.set_cons_succ]))
 refine Ch.noise (by rfl) (by rfl) (by rfl) ?_
 refine Se.gcall (f := 24) (args := #[.pointer (some ⟨g, 0, none⟩), .agg RL2.toArray]) ?_ ?_
 ·go_simp
 refine Calls.mono (looks_m [_, _, _, _] hs HRL2.out) ?_
 clear hs
 rintro e w ⟨rfl, hs⟩
 refine ⟨_, rfl, hs.hold (.blk g21 57 RL2) (by simp), ?_⟩
 (try simp only [Act.put, List.setIfInBounds_toArray, List.set_cons_zero, List.set_cons_succ])
 iterate 1 ((first | (refine Ch.pure (v := ?_) (by rfl) (by rfl) (by rfl) (fun wx hS => ?_) ?_; rotate_left; (focus (go_simp; (first | done | with_reducible rfl))))); (try simp only [Act.put, List.setIfInBounds_toArray, List.set_cons_zero, List.set_cons_succ]))
 refine Ch.noise (by rfl) (by rfl) (by rfl) (Se.sow 1 (vs := RL2) hs rfl rfl rfl rfl R2O.out (by rw [R2L.out] <;> kernel_rfl) (by rw [R2L.out, ZRL.out]) ?_)
 clear hs
 intro w hs
 simp only [List.cons_append, List.nil_append, List.set_cons_zero, List.set_cons_succ] at hs
 refine ⟨hs.hold (.blk g21 57 RL2) (by simp), ?_⟩
 (try simp only [Act.put, List.setIfInBounds_toArray, List.set_cons_zero, List.set_cons_succ])
 iterate 1 ((first | (refine Ch.pure (v := ?_) (by rfl) (by rfl) (by rfl) (fun wx hS => ?_) ?_; rotate_left; (focus (go_simp; (first | done | with_reducible rfl))))); (try simp only [Act.put, List.setIfInBounds_toArray, List.set_cons_zero, List.set_cons_succ]))
 refine Ch.done ?_
 try simp only [List.drop_succ_cons, List.drop_zero]
 go_wp2_with fail
 refine Se.ret hs [.agg RL2.toArray, .bool true] rfl ⟨Se.resRow rfl (Reads.blk 1 rfl) (by kernel_rfl) (by rw [R2L.out] <;> kernel_rfl), rfl, trivial⟩ (by simp) rfl ?_
 exact ⟨RL2, r, B, c, B2, c2, rfl, HRL2, Lib.hid (by rw [HB.out]; exact HC.out), hs.drop.drop.drop.drop⟩
set_option maxRecDepth 100000 in
set_option maxRecDepth 100000 in
set_option maxHeartbeats 4000000 in
theorem do0_st (hs : St w0 X (pR g s B c :: pO r B c s :: pM B2 s :: L) w) (hc : s.b.length ≤ c2) {k : Int} (hk1 : k ≠ 1) (hk2 : k ≠ 2) (hk3 : k ≠ 3) (XA : Option Addr) (n xc : Nat) (f : Fm) (hs' : s = s') :
  Calls Try.prog 23 #[.pointer (some ⟨g, 0, none⟩), .agg (rcl s B2 c2).toArray, .agg (stl k XA n xc f).toArray] w fun e' w' => ∃ RL' r' B' c' B2' c2', e' = .returned (.tuple #[.agg RL'.toArray, .bool true]) ∧ Hid (RL' = rcl s' B2' c2') ∧ Hid (s'.b.length ≤ c2') ∧ St w0 X (pR g s' B' c' :: pO r' B' c' s' :: pM B2' s' :: L) w' := by
 subst hs'
 obtain ⟨RL, hRL⟩ : ∃ RL, RL = rcl s B2 c2 := ⟨_, rfl⟩
 have RLen := Lib.hid (show RL.length = 8 by rw [hRL]; rfl)
 have RO := Lib.hid (show ∀ v ∈ RL, v.oneCell' = true by rw [hRL]; exact rcl_one _ _ _)
 have HRL := Lib.hid hRL
 have ZRL := Lib.hid (show (rcl { f := ⟨false, false, 0⟩, mo := 0 } none 0).length = 8 from rfl)
 have HC := Lib.hid hc
 obtain ⟨SL, hSL⟩ : ∃ SL, SL = stl k XA n xc f := ⟨_, rfl⟩
 have S0 := Lib.hid (show SL[0]? = some (.int .i64 k) by rw [hSL]; rfl)
 have e1 : (k == 1) = false := by simpa using hk1
 have e2 : (k == 2) = false := by simpa using hk2
 have e3 : (k == 3) = false := by simpa using hk3
 rw [← hRL, ← hSL]
 clear hRL hSL hc hk1 hk2 hk3
 go_enter Try.func23, Try.ntmps23
 go_wp2_with (first | ((with_reducible refine Se.isL (o := ⟨some 6, _, _, _, _, _⟩) ?_); (refine Se.toL rfl (Se.al (o := ⟨some 6, _, _, _, _, _⟩) hs rfl (zR) ?_); clear hs; rintro w g6 - hs)) | ((with_reducible refine Se.isL (o := ⟨some 24, _, _, _, _, _⟩) ?_); (refine Se.toL rfl (Se.ld (o := ⟨some 24, _, _, _, _, _⟩) hs rfl rfl (Cell.blk 1 rfl S0.out) (by kernel_rfl) ?_))) | ((with_reducible refine Se.isL (o := ⟨some 124, _, _, _, _, _⟩) ?_); (refine Se.toL rfl (Se.ldw (o := ⟨some 124, _, _, _, _, _⟩) hs rfl rfl ((Reads.blk 2 rfl)) ((by rw [RLen.out]; kernel_rfl)) (by kernel_rfl) ?_))) | ((with_reducible refine Se.isL (o := ⟨none, _, _, _, _, _⟩) ?_); (refine Se.toL rfl (Se.sow 0 hs rfl rfl rfl rfl (RO.out) ((by rw [RLen.out]; kernel_rfl)) ((by rw [RLen.out, ZRL.out])) ?_); clear hs; intro w hs; try simp only [List.cons_append, List.nil_append, List.set_cons_zero] at hs)) | ((first | with_reducible refine Se.ab hs ?_ | with_reducible refine Se.abc hs ?_); clear hs; (first | ((fail_if_success (have _q := g4)); generalize w.heap.size = g4; intro w hs) | (generalize w.heap.size = g5; intro w hs))))
 refine Se.ret hs [.agg RL.toArray, .bool true] rfl ⟨Se.resRow rfl (Reads.blk 0 rfl) (by kernel_rfl) (by rw [RLen.out] <;> kernel_rfl), rfl, trivial⟩ (by simp) rfl ?_
 exact ⟨RL, r, B, c, B2, c2, rfl, HRL, HC, hs.drop.drop.drop⟩
end Sr
end Go.Proofs.Ytdngfcmakjlamaa


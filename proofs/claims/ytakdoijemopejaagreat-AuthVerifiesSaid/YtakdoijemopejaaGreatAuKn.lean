/- Layer 38's laws: short and the examples of the chapter. No condition but Go's own limits. -/
import Derived.Test.YtakdoijemopejaaGreatAuCalls
import Derived.Laws.BytesArg
set_option linter.unusedSimpArgs false
set_option linter.unusedVariables false
namespace Go.Proofs.YtakdoijemopejaaGreat
open Go Go.RowKit
namespace Au
open Se (St At Reads Cell)
open Li (v8 v8_one Rd Blk Fr)
open Bv (n8 n16 n32 n64)
variable {w0 w : World} {X : List Nat} {L M : List At} {v v' : Vs} {A B : Option Addr} {c g k E : Nat} {m : Bs}
attribute [local irreducible] Calls
def short (p : Pn) : Bool := decide (p.sec.length ≤ 80) && decide (p.hs.size ≤ 240) && decide (p.sb.size ≤ 240)
set_option maxRecDepth 100000 in
set_option maxHeartbeats 4000000 in
theorem short_st (hs : St w0 X L w) (p : Pn) (A : Option Addr) (c : Nat) : Calls Tryz.prog 6 #[.agg (pcl p A c).toArray] w fun e w' => e = .returned (.bool (short p)) ∧ St w0 X L w' := by
 obtain ⟨PL, hPL⟩ : ∃ PL, PL = pcl p A c := ⟨_, rfl⟩
 obtain ⟨m, hm⟩ : ∃ m, m = p.sec.length := ⟨_, rfl⟩
 have P0 := Lib.hid (show PL[0]? = some (.slice A m c) by rw [hPL, hm]; rfl)
 have P1 := Lib.hid (show PL[1]? = some (.string p.hs) by rw [hPL]; rfl)
 have P2 := Lib.hid (show PL[2]? = some (.string p.sb) by rw [hPL]; rfl)
 have HS : Hid (short p = (decide (m ≤ 80) && decide (p.hs.size ≤ 240) && decide (p.sb.size ≤ 240))) := Lib.hid (by rw [hm]; rfl)
 rw [← hPL]
 clear hPL hm
 by_cases h1 : m ≤ 80
 ·have d1 : decide ((m : Int) ≤ 80) = true := by simp; omega
  by_cases h2 : p.hs.size ≤ 240
  ·have d2 : decide ((p.hs.size : Int) ≤ 240) = true := by simp; omega
   obtain ⟨D, hD⟩ : ∃ D, D = decide (p.sb.size ≤ 240) := ⟨_, rfl⟩
   have d3 : decide ((p.sb.size : Int) ≤ 240) = D := by rw [hD]; simp; omega
   have HR : Hid (short p = D) := Lib.hid (by rw [HS.out, hD]; simp [h1, h2])
   clear HS h1 h2 hD
   go_enter Tryz.func6, Tryz.ntmps6
   go_wp2_with (first | ((with_reducible refine Se.isL (o := ⟨some 4, _, _, _, _, _⟩) ?_); (refine Se.toL rfl (Se.ld (o := ⟨some 4, _, _, _, _, _⟩) hs rfl rfl (Cell.blk 0 rfl P0.out) (by kernel_rfl) ?_))) | ((with_reducible refine Se.isL (o := ⟨some 9, _, _, _, _, _⟩) ?_); (refine Se.toL rfl (Se.ld (o := ⟨some 9, _, _, _, _, _⟩) hs rfl rfl (Cell.blk 0 rfl P1.out) (by kernel_rfl) ?_))) | ((with_reducible refine Se.isL (o := ⟨some 15, _, _, _, _, _⟩) ?_); (refine Se.toL rfl (Se.ld (o := ⟨some 15, _, _, _, _, _⟩) hs rfl rfl (Cell.blk 0 rfl P2.out) (by kernel_rfl) ?_))) | ((first | with_reducible refine Se.ab hs ?_ | with_reducible refine Se.abc hs ?_); clear hs; (first | (generalize w.heap.size = gp; intro w hs))))
   go_ret
   exact ⟨by rw [HR.out]; rfl, hs.drop⟩
  ·have d2 : decide ((p.hs.size : Int) ≤ 240) = false := by simp; omega
   have HR : Hid (short p = false) := Lib.hid (by rw [HS.out]; simp [h2])
   clear HS h1 h2
   go_enter Tryz.func6, Tryz.ntmps6
   go_wp2_with (first | ((with_reducible refine Se.isL (o := ⟨some 4, _, _, _, _, _⟩) ?_); (refine Se.toL rfl (Se.ld (o := ⟨some 4, _, _, _, _, _⟩) hs rfl rfl (Cell.blk 0 rfl P0.out) (by kernel_rfl) ?_))) | ((with_reducible refine Se.isL (o := ⟨some 9, _, _, _, _, _⟩) ?_); (refine Se.toL rfl (Se.ld (o := ⟨some 9, _, _, _, _, _⟩) hs rfl rfl (Cell.blk 0 rfl P1.out) (by kernel_rfl) ?_))) | ((first | with_reducible refine Se.ab hs ?_ | with_reducible refine Se.abc hs ?_); clear hs; (first | (generalize w.heap.size = gp; intro w hs))))
   go_ret
   exact ⟨by rw [HR.out]; rfl, hs.drop⟩
 ·have d1 : decide ((m : Int) ≤ 80) = false := by simp; omega
  have HR : Hid (short p = false) := Lib.hid (by rw [HS.out]; simp [h1])
  clear HS h1
  go_enter Tryz.func6, Tryz.ntmps6
  go_wp2_with (first | ((with_reducible refine Se.isL (o := ⟨some 4, _, _, _, _, _⟩) ?_); (refine Se.toL rfl (Se.ld (o := ⟨some 4, _, _, _, _, _⟩) hs rfl rfl (Cell.blk 0 rfl P0.out) (by kernel_rfl) ?_))) | ((first | with_reducible refine Se.ab hs ?_ | with_reducible refine Se.abc hs ?_); clear hs; (first | (generalize w.heap.size = gp; intro w hs))))
  go_ret
  exact ⟨by rw [HR.out]; rfl, hs.drop⟩
theorem mC_len {first : Bs} (h : first.length = 32) (seq : BitVec 32) (q : BitVec 16) : 40 = (mC first seq q).length := by
 unfold mC; rw [msg_len _ _ (by simpa using h)]; rfl
theorem mR_len (p : Pn) (first : Bs) {second : Bs} (h2 : second.length = 32) (seq : BitVec 32) (q : BitVec 16) (both : Bool) : 72 = (mR p first second seq q both).length := by
 unfold mR; rw [msg_len _ _ (by simp [rp_len, nn_len second both h2])]; rfl
theorem mS_len (p : Pn) (second : Bs) (seq : BitVec 32) (q : BitVec 16) (both : Bool) : 40 = (mS p second seq q both).length := by
 unfold mS; rw [msg_len _ _ (by cases both; (intro x hx; simp at hx; rw [hx]; rfl); simp [rp_len])]; rfl
theorem v1_ok {v : Vs} (h : v.ok) {first : Bs} (h1 : first.length = 32) (seq : BitVec 32) (q : BitVec 16) : (v1 first seq q v).ok := ⟨h1, h.k1, h.k, h.a, h.b⟩
theorem q1_ok {v : Vs} (h : v.ok) {second : Bs} (h2 : second.length = 32) (seq : BitVec 32) (q : BitVec 16) (both : Bool) : (q1 second seq q both v).ok := ⟨nn_len second both h2, h.k1, h.k, h.a, h.b⟩
theorem od_ok {v : Vs} (h : v.ok) (a b : Bool) : ({ v with o := a, d := b } : Vs).ok := ⟨h.n, h.k1, h.k, h.a, h.b⟩
theorem o_ok {v : Vs} (h : v.ok) (a : Bool) : ({ v with o := a } : Vs).ok := ⟨h.n, h.k1, h.k, h.a, h.b⟩
/-- The party of the examples, the empty one, and the nonces. -/
def px : Pn := ⟨[0x78#8], ⟨#[104]⟩, ⟨#[115]⟩⟩
def p0 : Pn := ⟨[], ⟨#[104]⟩, ⟨#[115]⟩⟩
def nx (b : BitVec 8) : Bs := b :: List.replicate 31 0#8
theorem px_ok : valid px.py = true := by decide +kernel
theorem p0_no : valid p0.py = false := by decide +kernel
theorem nx_build (w : World) : (Instr.build 34 #[(0, .int .u8 1)]).run Tryz.prog w = .ok (.agg ((nx 1#8).map v8).toArray) w := by kernel_rfl
theorem nx_build2 (w : World) : (Instr.build 34 #[(0, .int .u8 2)]).run Tryz.prog w = .ok (.agg ((nx 2#8).map v8).toArray) w := by kernel_rfl
set_option maxRecDepth 100000 in
set_option maxHeartbeats 4000000 in
theorem known_st (hs : St w0 X L w) : Calls Tryz.prog 7 #[] w fun e w' => e = .returned (.bool true) ∧ St w0 X L w' := by
 have C0 : Hid (∀ w, St w0 X L w → Calls Tryz.prog 8 #[.slice none 0 0, .string ⟨#[104]⟩, .string ⟨#[115]⟩] w fun e w' => e = .returned (.tuple #[.pointer none, .int .i64 2]) ∧ St w0 X L w') := Lib.hid (fun w hs => by
  refine (verNew_st hs p0 none 0 Reads.nil (by decide) (by decide) (by decide)).mono ?_
  rintro e w' (⟨_, rfl, h⟩ | ⟨h1, _⟩)
  ·exact ⟨rfl, h⟩
  ·rw [p0_no] at h1; cases h1)
 have C1 : Hid (∀ (L' : List At) (A : Option Addr) (w : World), .rd A [.int .u8 120] ∈ L' → St w0 X L' w → Calls Tryz.prog 8 #[.slice A 1 1, .string ⟨#[104]⟩, .string ⟨#[115]⟩] w fun e w' => ∃ g A2 c2, e = .returned (.tuple #[.pointer (some ⟨g, 0, none⟩), .int .i64 0]) ∧ St w0 X (.blk g 69 (vcl { p := px } A2 c2) :: .rd A2 (px.sec.map v8) :: L') w') := Lib.hid (fun L' A w hm hs => by
  refine (verNew_st hs px A 1 (Reads.rdm hm) (by decide) (by decide) (by decide)).mono ?_
  rintro e w' (⟨h1, _⟩ | ⟨_, h⟩)
  ·rw [px_ok] at h1; cases h1
  ·exact h)
 have C2 : Hid (∀ (L' : List At) (A : Option Addr) (w : World), .rd A [.int .u8 120] ∈ L' → St w0 X L' w → Calls Tryz.prog 18 #[.slice A 1 1, .string ⟨#[104]⟩, .string ⟨#[115]⟩] w fun e w' => ∃ g A2 c2, e = .returned (.tuple #[.pointer (some ⟨g, 0, none⟩), .int .i64 0]) ∧ St w0 X (.blk g 83 (vcl { p := px } A2 c2) :: .rd A2 (px.sec.map v8) :: L') w') := Lib.hid (fun L' A w hm hs => by
  refine (proNew_st hs px A 1 (Reads.rdm hm) (by decide) (by decide) (by decide)).mono ?_
  rintro e w' (⟨h1, _⟩ | ⟨_, h⟩)
  ·rw [px_ok] at h1; cases h1
  ·exact h)
 go_enter Tryz.func7, Tryz.ntmps7
 go_upto_region 2 with (first | (go_at_call 8; refine Calls.mono (C0.out _ hs) ?_; clear hs; rintro e w ⟨rfl, hs⟩))
 go_upto_region 3 with (first | ((first | with_reducible refine Se.ab hs ?_ | with_reducible refine Se.abc hs ?_); clear hs; (first | (generalize w.heap.size = g22; intro w hs))) | (with_reducible refine Se.isL (o := ⟨some 23, _, _, _, _, _⟩) ?_; refine Se.toL rfl (Se.cvs (o := ⟨some 23, _, _, _, _, _⟩) (g := g22) hs rfl rfl Tryz.underlying22 Tryz.underlying5 ?_); clear hs; intro w hs) | (go_at_call 8; refine Calls.mono (C1.out _ _ _ (by simp) hs) ?_; clear hs; rintro e w ⟨gv, Av, cv, rfl, hs⟩))
 go_upto_region 4 with (first | ((first | with_reducible refine Se.ab hs ?_ | with_reducible refine Se.abc hs ?_); clear hs; (first | (generalize w.heap.size = g28; intro w hs))) | (with_reducible refine Se.isL (o := ⟨some 29, _, _, _, _, _⟩) ?_; refine Se.toL rfl (Se.cvs (o := ⟨some 29, _, _, _, _, _⟩) (g := g28) hs rfl rfl Tryz.underlying22 Tryz.underlying5 ?_); clear hs; intro w hs) | (go_at_call 18; refine Calls.mono (C2.out _ _ _ (by simp) hs) ?_; clear hs; rintro e w ⟨gp, Ap, cp, rfl, hs⟩))
 clear C0 C1 C2
 replace hs := hs.pull 4 rfl
 replace hs := hs.pull 4 rfl
 replace hs := hs.pull 3 rfl
 replace hs := hs.pull 3 rfl
 replace hs := hs.pull 5 rfl
 replace hs := hs.pull 5 rfl
 simp only [List.eraseIdx_cons_succ, List.eraseIdx_cons_zero] at hs
 replace hs := hs.drop.drop
 have l1 : (nx 1#8).length = 32 := rfl
 have l2 : (nx 2#8).length = 32 := rfl
 have V0 : Vs.ok { p := px } := valid_ok px_ok (by decide) (by decide)
 have V1 := v1_ok V0 l1 5#32 1#16
 have Q1 := q1_ok V0 l2 5#32 1#16 true
 have HL := Lib.hid (And.intro l1 l2)
 have HV := Lib.hid (And.intro V0 (And.intro V1 Q1))
 clear l1 l2 V0 V1 Q1
 go_upto_region 7 with (first | ((with_reducible refine Se.isL (o := ⟨some 45, _, _, _, _, _⟩) ?_); (refine Se.toL rfl (Se.bd (o := ⟨some 45, _, _, _, _, _⟩) rfl rfl (nx_build _) ?_))) | (go_at_call 10; refine Calls.mono (chalM (M := [_, _]) (nonce := nx 1#8) (seq := 5#32) (q := 1#16) hs HV.out.1 HL.out.1 (chal_ok _ _ _ _ (by decide)) (mC_len HL.out.1 _ _)) ?_; clear hs; rintro e w ⟨r1, A1, c1, rfl, hs⟩))
 simp only [List.cons_append, List.nil_append] at hs
 go_upto_region 8 with (first | ((with_reducible refine Se.isL (o := ⟨some 51, _, _, _, _, _⟩) ?_); (refine Se.toL rfl (Se.bd (o := ⟨some 51, _, _, _, _, _⟩) rfl rfl (nx_build _) ?_))) | (go_at_call 10; refine Calls.mono (chalM (M := [_, _, _]) (nonce := nx 1#8) (seq := 5#32) (q := 1#16) hs HV.out.2.1 HL.out.1 (chal_no _ _ _ _ (by decide)) rfl) ?_; clear hs; rintro e w ⟨r2, A2, c2, rfl, hs⟩))
 simp only [List.cons_append, List.nil_append] at hs
 replace hs := hs.drop
 go_upto_region 9 with (first | ((with_reducible refine Se.isL (o := ⟨some 58, _, _, _, _, _⟩) ?_); (refine Se.toL rfl (Se.bd (o := ⟨some 58, _, _, _, _, _⟩) rfl rfl (nx_build2 _) ?_))) | (go_at_call 19; refine Calls.mono (ansM (M := [_]) (b := mC (nx 1#8) 5#32 1#16) (nonce := nx 2#8) hs HV.out.1 (by simp) (Reads.own 0 rfl) (mC_len HL.out.1 _ _) (by omega) HL.out.2 (ans_ok px _ _ _ _ true _ rfl HL.out.1) (mR_len _ _ HL.out.2 _ _ _)) ?_; clear hs; rintro e w ⟨r3, A3, c3, rfl, hs⟩))
 simp only [List.cons_append, List.nil_append] at hs
 go_upto_region 10 with (first | (go_at_call 15; refine Calls.mono (checkM (M := [_, _, _, _]) (b := mR px (nx 1#8) (nx 2#8) 5#32 1#16 true) hs HV.out.2.1 (by simp [v1]) (Reads.own 0 rfl) (mR_len _ _ HL.out.2 _ _ _) (by omega) (check_ok px _ _ _ _ true _ rfl rfl rfl rfl HL.out.1 HL.out.2) (mS_len _ _ _ _ _)) ?_; clear hs; rintro e w ⟨r4, A4, c4, rfl, hs⟩))
 simp only [List.cons_append, List.nil_append] at hs
 go_upto_region 11 with (first | (go_at_call 15; refine Calls.mono (checkM (M := [_, _, _, _, _]) (b := mR px (nx 1#8) (nx 2#8) 5#32 1#16 true) hs (od_ok HV.out.2.1 _ _) (by simp [v1]) (Reads.own 1 rfl) (mR_len _ _ HL.out.2 _ _ _) (by omega) (check_closed px _ _ _ _ true _ rfl HL.out.2) rfl) ?_; clear hs; rintro e w ⟨r5, A5, c5, rfl, hs⟩))
 simp only [List.cons_append, List.nil_append] at hs
 replace hs := hs.drop
 obtain ⟨gA, oA, rfl, rfl⟩ := hs.own_at 2 rfl (by omega)
 have hcap : 40 ≤ c1 := (show Se.Ow w 1 (some gA) (some ⟨gA, oA, none⟩) 40 c1 _ from hs.hold (.own 1 (some gA) (some ⟨gA, oA, none⟩) 40 c1 _) (List.mem_cons_of_mem _ (List.mem_cons_of_mem _ List.mem_cons_self))).2.1
 have hcap8 : 8 ≤ c1 := by omega
 have hst : (convert 22 9 (.slice (some ⟨gA, oA, none⟩) 8 c1)).run Tryz.prog w = .ok (.string ⟨#[1, 0, 1, 0, 5, 0, 0, 0]⟩) w := by
  refine run_convert_bytes_back w 22 9 5 ⟨gA, oA, none⟩ c1 [1, 0, 1, 0, 5, 0, 0, 0] Tryz.underlying22 Tryz.underlying5 Tryz.underlying9 (fun j hj => ?_)
  have hj : j < 8 := hj
  have e0 : mC (nx 1#8) 5#32 1#16 = [1#8, 0#8, 1#8, 0#8, 5#8, 0#8, 0#8, 0#8] ++ nx 1#8 := by decide +kernel
  have e : (mC (nx 1#8) 5#32 1#16).map v8 = [v8 1#8, v8 0#8, v8 1#8, v8 0#8, v8 5#8, v8 0#8, v8 0#8, v8 0#8] ++ (nx 1#8).map v8 := by rw [e0, List.map_append]; rfl
  have h := (Reads.own (L := _) 2 rfl).cell (g := gA) (o := oA) j (v := .int .u8 (([1, 0, 1, 0, 5, 0, 0, 0] : List UInt8)[j].toNat : Int)) (by
   rw [e, List.getElem?_append_left (by simpa using hj)]
   match j, hj with
   | 0, _ | 1, _ | 2, _ | 3, _ | 4, _ | 5, _ | 6, _ | 7, _ => rfl) w hs.hold
  rw [Addr.add_lit]
  exact h
 go_wp2_with (first | (go_at_call 21; refine Calls.mono (finM (M := [_, _, _]) (b := mS px (nx 2#8) 5#32 1#16 true) hs HV.out.2.2 (by simp [q1]) (Reads.own 0 rfl) (mS_len _ _ _ _ _) (by omega) (fin_ok px _ _ _ true _ rfl rfl rfl rfl HL.out.2)) ?_; clear hs; rintro e w ⟨rfl, hs⟩))
 go_ret
 exact ⟨rfl, hs.drop.drop.drop.drop.drop.drop.drop⟩
end Au
end Go.Proofs.YtakdoijemopejaaGreat

/- Layer 38: parsed. No condition but Go's own limits. -/
import Derived.Test.YtakdoijemopejaaGreatAuEq
set_option linter.unusedSimpArgs false
set_option linter.unusedVariables false
namespace Go.Proofs.YtakdoijemopejaaGreat
open Go Go.RowKit
namespace Au
open Se (St At Reads Cell)
open Li (v8 v8_one Rd Blk)
open Bv (n8 n16 n32 n64)
variable {w0 w : World} {X : List Nat} {L : List At}
attribute [local irreducible] Calls
theorem headI : (Tryz.prog.info? 67).bind (fun i => i.zero.map (·.cells.toList)) = some [.int .u8 0, .int .u8 0, .int .u16 0, .int .u32 0] := by kernel_rfl
theorem intI : (Tryz.prog.info? 3).map (fun i => (i.zero, i.size)) = some (some (.int .i64 0), 1) := by kernel_rfl
def Z32 : List Value := z32.map v8
theorem a32I : (Tryz.prog.info? 34).bind (fun i => i.zero.map (·.cells.toList)) = some Z32 := by kernel_rfl
theorem a32I3 : (Tryz.prog.info? 34).map (fun i => (i.zero, i.size, i.bytes)) = some (some (.agg Z32.toArray), 32, 32) := by kernel_rfl
theorem arrB (a : Option Addr) (c : Nat) (w : World) : (Instr.arrayAt 34 (.slice a 32 c)).run Tryz.prog w = .ok (.pointer a) w := run_arrayAt w 34 _ 32 a 32 c Tryz.underlying34 (Nat.le_refl _)
/-- What parsed gives. -/
def ParR (w0 : World) (X : List Nat) (L : List At) (b : Bs) (np E : Nat) (e : Ending) (w' : World) : Prop :=
 (E ≠ 0 ∧ e = .returned (.tuple #[.agg #[.int .u8 0, .int .u8 0, .int .u16 0, .int .u32 0], .slice none 0 0, .int .i64 E]) ∧ St w0 X L w') ∨ (E = 0 ∧ ∃ r A c, e = .returned (.tuple #[.agg (hc (hdOf b)).toArray, .slice A np c, .int .i64 0]) ∧ St w0 X (.own 32 r A np c ((b.drop 8).map v8) :: L) w')
section
attribute [local go_sem] arrB Bv.of_n64 Bv.wrap_n8_of Bv.of8_n64 Bv.wrap_n16_of Bv.of16_n64 Bv.wrap_n32_of Bv.of32_n64
set_option maxRecDepth 100000 in
set_option maxHeartbeats 4000000 in
theorem parsed_st {A : Option Addr} {n c : Nat} {b : Bs} (hs : St w0 X L w) (hr : Reads L A (b.map v8)) (hn : n = b.length) (hb : n ≤ 1000) (kind fl : BitVec 8) (np m : Nat) (hnp : np = m + 1) (hm1 : m ≤ 1) :
  Calls Tryz.prog 34 #[.slice A n c, .int .u8 (n8 kind), .int .u8 (n8 fl), .int .i64 np] w fun e w' => ParR w0 X L b np (parE b kind fl np) e w' := by
 obtain ⟨E, hE⟩ : ∃ E, E = parE b kind fl np := ⟨_, rfl⟩
 rw [← hE]
 have HE := Lib.hid hE
 have HN := Lib.hid hn
 have HNP := Lib.hid hnp
 have hnp3 : np ≤ 2 := by omega
 by_cases h1 : n < 8 + 32 * np
 ·have d1 : decide ((n : Int) < 8 + 32 * (np : Int)) = true := by simp; omega
  have e4 : E = 4 := by rw [hE]; unfold parE; rw [if_pos (by omega)]
  clear hE hn hnp h1
  go_enter Tryz.func34, Tryz.ntmps34
  go_wp2_with (first | ((with_reducible refine Se.isL (o := ⟨some 8, _, _, _, _, _⟩) ?_); (refine Se.toL rfl (Se.al (o := ⟨some 8, _, _, _, _, _⟩) hs rfl (headI) ?_); clear hs; rintro w g8 - hs)) | ((with_reducible refine Se.isL (o := ⟨some 23, _, _, _, _, _⟩) ?_); (refine Se.toL rfl (Se.ldw (o := ⟨some 23, _, _, _, _, _⟩) hs rfl rfl ((Reads.blk 0 rfl)) ((by kernel_rfl)) (by kernel_rfl) ?_))) | ((with_reducible refine Se.isL (o := ⟨none, _, _, _, _, _⟩) ?_); (refine Se.toL rfl (Se.sow 0 hs rfl rfl rfl rfl ((by simp [Value.oneCell'])) ((by kernel_rfl)) (rfl) ?_); clear hs; intro w hs; try simp only [List.cons_append, List.nil_append, List.set_cons_zero] at hs)))
  refine Se.ret hs [.agg #[.int .u8 0, .int .u8 0, .int .u16 0, .int .u32 0], .slice none 0 0, .int .i64 4] rfl ⟨Se.resRow rfl (Reads.blk 0 rfl) (by kernel_rfl) (by kernel_rfl), rfl, rfl, trivial⟩ (by simp) rfl ?_
  exact .inl ⟨by omega, by rw [e4]; rfl, hs.drop⟩
 by_cases h2 : 8 + 32 * np < n
 ·have d1 : decide ((n : Int) < 8 + 32 * (np : Int)) = false := by simp; omega
  have d2 : decide (8 + 32 * (np : Int) < (n : Int)) = true := by simp; omega
  have e5 : E = 5 := by rw [hE]; unfold parE; rw [if_neg (by omega), if_pos (by omega)]
  clear hE hn hnp h1 h2
  go_enter Tryz.func34, Tryz.ntmps34
  go_wp2_with (first | ((with_reducible refine Se.isL (o := ⟨some 8, _, _, _, _, _⟩) ?_); (refine Se.toL rfl (Se.al (o := ⟨some 8, _, _, _, _, _⟩) hs rfl (headI) ?_); clear hs; rintro w g8 - hs)) | ((with_reducible refine Se.isL (o := ⟨some 31, _, _, _, _, _⟩) ?_); (refine Se.toL rfl (Se.ldw (o := ⟨some 31, _, _, _, _, _⟩) hs rfl rfl ((Reads.blk 0 rfl)) ((by kernel_rfl)) (by kernel_rfl) ?_))) | ((with_reducible refine Se.isL (o := ⟨none, _, _, _, _, _⟩) ?_); (refine Se.toL rfl (Se.sow 0 hs rfl rfl rfl rfl ((by simp [Value.oneCell'])) ((by kernel_rfl)) (rfl) ?_); clear hs; intro w hs; try simp only [List.cons_append, List.nil_append, List.set_cons_zero] at hs)))
  refine Se.ret hs [.agg #[.int .u8 0, .int .u8 0, .int .u16 0, .int .u32 0], .slice none 0 0, .int .i64 5] rfl ⟨Se.resRow rfl (Reads.blk 0 rfl) (by kernel_rfl) (by kernel_rfl), rfl, rfl, trivial⟩ (by simp) rfl ?_
  exact .inl ⟨by omega, by rw [e5]; rfl, hs.drop⟩
 have d1 : decide ((n : Int) < 8 + 32 * (np : Int)) = false := by simp; omega
 have d2 : decide (8 + 32 * (np : Int) < (n : Int)) = false := by simp; omega
 have HNN : Hid (n = 8 + 32 * np) := Lib.hid (by omega)
 have C1 : Hid (∀ (L' : List At) (w : World), St w0 X (L' ++ L) w → Calls Tryz.prog 46 #[.slice A n c] w fun e w' => ∃ g A2 c2, e = .returned (.pointer (some ⟨g, 0, none⟩)) ∧ n ≤ c2 ∧ St w0 X (rB g A2 n c2 0 :: .rd A2 (b.map v8) :: (L' ++ L)) w') := Lib.hid (fun L' w hs => newReader_st hs (hr.app L') hn (by omega))
 have C2 : Hid (∀ (g36 gr g8 : Nat) (Z : List Value) (A2 : Option Addr) (c2 : Nat) (w : World), n ≤ c2 → St w0 X (.blk g36 3 [.int .i64 1, .int .i64 1, .int .i64 2, .int .i64 4] :: rB gr A2 n c2 0 :: .rd A2 (b.map v8) :: .blk g8 67 Z :: L) w → Calls Tryz.prog 47 #[.pointer (some ⟨gr, 0, none⟩), .slice (some ⟨g36, 0, none⟩) 4 4] w fun e w' => ∃ r3 A3 c3 A', e = .returned (.tuple #[.slice A3 4 c3, .int .i64 0]) ∧ Cuts b A2 A' 8 ∧ St w0 X (.own 1 r3 A3 4 c3 ((fo b [1, 1, 2, 4] 4).map v64) :: rB gr A' (n - 8) (c2 - 8) 8 :: .rd A2 (b.map v8) :: .blk g8 67 Z :: L) w') := Lib.hid (fun g36 gr g8 Z A2 c2 w hc hs => by
  refine (all_st (hs.perm (List.Perm.swap _ _ _)) (Reads.rd 1 rfl) hn hb hc [1, 1, 2, 4] (m := 4) rfl (by omega) (Reads.blk 0 rfl) (by decide) (by simp; omega)).mono ?_
  rintro e w' ⟨r3, A3, c3, A', rfl, h2, h3⟩
  refine ⟨r3, A3, c3, A', rfl, h2, ?_⟩
  exact ((h3.pull 2 rfl).drop))
 clear hE hn h1 h2 hnp
 go_enter Tryz.func34, Tryz.ntmps34
 go_upto_region 6 with (first | ((with_reducible refine Se.isL (o := ⟨some 8, _, _, _, _, _⟩) ?_); (refine Se.toL rfl (Se.al (o := ⟨some 8, _, _, _, _, _⟩) hs rfl (headI) ?_); clear hs; rintro w g8 - hs)) | (go_at_call 46; refine Calls.mono (C1.out [_] _ hs) ?_; clear hs; rintro e w ⟨gr, A2, c2, rfl, hc2, hs⟩))
 go_upto_region 9 with (first | ((with_reducible refine Se.isL (o := ⟨some 36, _, _, _, _, _⟩) ?_); (refine Se.toL rfl (Se.bsv (o := ⟨some 36, _, _, _, _, _⟩) hs rfl Tryz.underlying115 intI rfl ([.int .i64 1, .int .i64 1, .int .i64 2, .int .i64 4]) (by rfl) (by rfl) (by decide) (by decide) (by simp [Value.oneCell']) ?_); clear hs; rintro w g36 - hs)) | (go_at_call 47; refine Calls.mono (C2.out _ _ _ _ _ _ _ hc2 hs) ?_; clear hs; rintro e w ⟨r3, A3, c3, A', rfl, hcut, hs⟩))
 obtain ⟨gv, ov, rfl, rfl⟩ := hs.own_at 0 rfl (by omega)
 obtain ⟨V0, V1, V2, V3, hV, hH⟩ : ∃ V0 V1 V2 V3, fo b [1, 1, 2, 4] 4 = [V0, V1, V2, V3] ∧ hdOf b = { k := V0.setWidth 8, f := V1.setWidth 8, q := V2.setWidth 16, s := V3.setWidth 32 } := ⟨_, _, _, _, rfl, rfl⟩
 obtain ⟨H, hHe⟩ : ∃ H, H = hc (hdOf b) := ⟨_, rfl⟩
 have hHe2 : H = [.int .u8 (n8 (V0.setWidth 8)), .int .u8 (n8 (V1.setWidth 8)), .int .u16 (n16 (V2.setWidth 16)), .int .u32 (n32 (V3.setWidth 32))] := by rw [hHe, hH]; rfl
 rw [hV] at hs
 have HHE := Lib.hid hHe
 clear hV hHe hr C1 C2 d1 d2
 simp only [List.map_cons, List.map_nil] at hs
 refine Ch.region' 18 (fun wx => wx.cell? ⟨gv, ov, none⟩ = some (v64 V0) ∧ wx.cell? ⟨gv, ov + 1, none⟩ = some (v64 V1) ∧ wx.cell? ⟨gv, ov + 2, none⟩ = some (v64 V2) ∧ wx.cell? ⟨gv, ov + 3, none⟩ = some (v64 V3)) (fun | 17 => true | _ => false) (by kernel_rfl) (by decide +kernel) (⟨(Reads.own 0 rfl).cell 0 rfl _ hs.drew.hold, (Reads.own 0 rfl).cell 1 rfl _ hs.drew.hold, (Reads.own 0 rfl).cell 2 rfl _ hs.drew.hold, (Reads.own 0 rfl).cell 3 rfl _ hs.drew.hold⟩) ?_
 replace hs := hs.drew
 generalize w.drew = w at hs ⊢
 change Ch.CW _ _ _ _ _ [0, 1, 2, 3, 4, 5, 6, 7, 8, 9, 10, 11, 12, 13, 14, 15, 16, 17] _ _
 iterate 16 ((first | (refine Ch.pure (v := ?_) (by rfl) (by rfl) (by rfl) (fun wx hS => ?_) ?_; rotate_left; (focus (go_simp; (first | done | with_reducible rfl)))) | refine Ch.pure (v := _) (by rfl) (by rfl) (by rfl) (fun wx hS => Se.xl rfl rfl hS.1 (by decide +kernel)) ?_ | refine Ch.pure (v := _) (by rfl) (by rfl) (by rfl) (fun wx hS => Se.xl rfl rfl hS.2.1 (by decide +kernel)) ?_ | refine Ch.pure (v := _) (by rfl) (by rfl) (by rfl) (fun wx hS => Se.xl rfl rfl hS.2.2.1 (by decide +kernel)) ?_ | refine Ch.pure (v := _) (by rfl) (by rfl) (by rfl) (fun wx hS => Se.xl rfl rfl hS.2.2.2 (by decide +kernel)) ?_); (try simp only [Act.put, List.setIfInBounds_toArray, List.set_cons_zero, List.set_cons_succ]))
 refine Ch.pure (v := .agg H.toArray) (by rfl) (by rfl) (by rfl) (fun wx hS => by rw [hHe2]; go_simp) ?_
 (try simp only [Act.put, List.setIfInBounds_toArray, List.set_cons_zero, List.set_cons_succ])
 refine Ch.noise (by rfl) (by rfl) (by rfl) (Se.sow 3 (vs := H) hs rfl rfl rfl rfl (by rw [hHe2]; simp [Value.oneCell']) (by rw [hHe2]; kernel_rfl) (by rw [hHe2]; rfl) ?_)
 clear hs
 intro w hs
 simp only [List.set_cons_zero, List.set_cons_succ] at hs
 refine ⟨⟨(Reads.own 0 rfl).cell 0 rfl _ hs.hold, (Reads.own 0 rfl).cell 1 rfl _ hs.hold, (Reads.own 0 rfl).cell 2 rfl _ hs.hold, (Reads.own 0 rfl).cell 3 rfl _ hs.hold⟩, ?_⟩
 (try simp only [Act.put, List.setIfInBounds_toArray, List.set_cons_zero, List.set_cons_succ])
 refine Ch.done ?_
 try simp only [List.drop_succ_cons, List.drop_zero]
 replace hs := (hs.drop.nil_own 32 none)
 have HCUT := Lib.hid hcut
 have HC2 := Lib.hid hc2
 have HHE2 := Lib.hid hHe2
 have HH := Lib.hid hH
 clear hcut hHe2 hH
 obtain ⟨Q, hQ⟩ : ∃ Q : Nat → Bs, Q = fun i => (b.drop 8).take (32 * i) := ⟨_, rfl⟩
 have Q0 := Lib.hid (show Q 0 = [] by rw [hQ]; simp)
 have QS := Lib.hid (show ∀ i, i < np → Q (i + 1) = Q i ++ (b.drop (8 + 32 * i)).take 32 by
  intro i hi
  rw [hQ]
  simp only
  rw [show 32 * (i + 1) = 32 * i + 32 by omega, List.take_add, List.drop_drop])
 have QN := Lib.hid (show Q np = b.drop 8 by rw [hQ]; simp only; rw [List.take_of_length_le (by rw [List.length_drop]; have := HN.out; have := HNN.out; omega)])
 have QL := Lib.hid (show ∀ i, i < np → ((b.drop (8 + 32 * i)).take 32).length = 32 by intro i hi; simp; have := HN.out; have := HNN.out; omega)
 clear hQ
 go_wp2_with fail
 go_loopg [9, 62] np (fun gh s9 s62 wr => ∃ (i : Nat) (r : Option Nat) (B : Option Addr) (c' : Nat) (Ai : Option Addr) (n' c2' o : Nat), gh = np - i ∧ i ≤ np ∧ s62 = .int .i64 i ∧ s9 = .slice B i c' ∧ Hid (o = 8 + 32 * i ∧ n' = n - o ∧ c2' = c2 - o) ∧ Hid (Cuts b A2 Ai o) ∧ St w0 X (.own 32 r B i c' ((Q i).map v8) :: rB gr Ai n' c2' o :: .rd A2 (b.map v8) :: .blk g8 67 H :: L) wr)
 case atStart => exact ⟨0, none, none, 0, A', n - 8, c2 - 8, 8, rfl, by omega, rfl, rfl, Lib.hid ⟨rfl, rfl, rfl⟩, HCUT, by rw [Q0.out]; exact hs⟩
 case round =>
  clear hs
  rename World => w
  obtain ⟨i, r, B, c', Ai, n', c2', o, rfl, hi, rfl, rfl, HO, HC, hs⟩ := hrel
  by_cases hlt : i < np
  ·have hlt' : (i : Int) < (np : Int) := by omega
   have C := Lib.hid (takeR_st (k := 32) (hs.perm (List.Perm.swap _ _ _)) (HC.out _ (Reads.rd 1 rfl)) (by rw [List.length_drop, HO.out.2.1, HN.out]) (by have := HO.out; have := HNN.out; omega) (by have := HO.out; have := HC2.out; omega) (by have := HO.out; have := HNN.out; omega) (by have := HO.out; omega))
   have HCUT2 : Hid (Cuts b A2 (cutA Ai 32 c2') (o + 32)) := Lib.hid (fun L' h => by
    have := Reads.cut (bs := b.drop o) (n := n') (k := 32) (c := c2') (HC.out L' h) (by rw [List.length_drop, HO.out.2.1, HN.out]) (by have := HO.out; have := HNN.out; omega) (by have := HO.out; have := HC2.out; omega)
    rwa [List.drop_drop] at this)
   have HO2 : Hid (o + 32 = 8 + 32 * (i + 1) ∧ n' - 32 = n - (o + 32) ∧ c2' - 32 = c2 - (o + 32)) := Lib.hid ⟨by have := HO.out; omega, by have := HO.out; omega, by have := HO.out; omega⟩
   have QS1 := QS.out i hlt
   have QL1 := QL.out i hlt
   rw [← HO.out.1] at QS1 QL1
   obtain ⟨V, hV⟩ : ∃ V, V = (b.drop o).take 32 := ⟨_, rfl⟩
   rw [← hV] at C QS1 QL1
   have QS1 := Lib.hid QS1
   have VL := Lib.hid (show (V.map v8).length = 32 by simpa using QL1)
   clear hV QL1 hlt
   go_upto_region 13 with (first | (go_at_call 48; refine Calls.mono (C.out) ?_; clear hs; rintro e w ⟨r4, A4, c4, rfl, hs⟩))
   obtain ⟨ga, oa, rfl, rfl⟩ := hs.own_at 0 rfl (by omega)
   go_wp2_with (first | ((with_reducible refine Se.isL (o := ⟨some 72, _, _, _, _, _⟩) ?_); (refine Se.toL rfl (Se.ldw (o := ⟨some 72, _, _, _, _, _⟩) hs rfl rfl ((Reads.own 0 rfl)) ((by rw [VL.out]; kernel_rfl)) (by kernel_rfl) ?_))) | ((with_reducible refine Se.isL (o := ⟨some 73, _, _, _, _, _⟩) ?_); (refine Se.toL rfl (Se.bs1 (o := ⟨some 73, _, _, _, _, _⟩) hs rfl Tryz.underlying77 a32I3 (by decide) (by decide) rfl (VL.out) ?_); clear hs; rintro w g73 - hs)) | ((with_reducible refine Se.isL (o := ⟨some 74, _, _, _, _, _⟩) ?_); (refine Se.toL rfl (Se.ap (o := ⟨some 74, _, _, _, _, _⟩) 3 hs rfl rfl rfl rfl ((Reads.blk 0 rfl)) Tryz.underlying77 a32I3 ((by kernel_rfl)) (by decide) ((v8_one _)) ((by rw [VL.out])) ((by omega)) ((by omega)) ?_); clear hs; rintro w r' B' c'' hs; try simp only [List.cons_append, List.nil_append, List.set_cons_zero, List.set_cons_succ] at hs; try simp only [Nat.zero_add, List.nil_append] at hs; try simp only [Nat.zero_add])))
   go_roundg (np - (i + 1))
   case measure => omega
   case rel =>
    refine ⟨i + 1, r', B', c'', _, _, _, _, rfl, by omega, by go_num, rfl, HO2, HCUT2, ?_⟩
    rw [QS1.out, List.map_append]
    exact hs.drop.drop.perm (List.Perm.swap _ _ _)
  ·obtain rfl : i = np := by omega
   obtain ⟨gB, oB, rfl, rfl⟩ := hs.own_at 0 rfl (by have := HNP.out; omega)
   rw [QN.out] at hs
   replace hs := hs.pull 3 rfl
   replace hs := hs.pull 1 rfl
   replace hs := hs.pull 3 rfl
   replace hs := hs.pull 3 rfl
   simp only [List.eraseIdx_cons_succ, List.eraseIdx_cons_zero] at hs
   replace hs := hs.drop.drop
   clear QS QL QN Q0 HC HO HCUT
   obtain ⟨W, hW⟩ : ∃ W, W = prt b m := ⟨_, rfl⟩
   have WL0 : W.length = 32 := by rw [hW]; unfold prt; simp; have := HN.out; have := HNN.out; have := HNP.out; omega
   obtain ⟨WV, hWV⟩ : ∃ WV, WV = W.map v8 := ⟨_, rfl⟩
   have WL := Lib.hid (show WV.length = 32 by rw [hWV]; simpa using WL0)
   have WO := Lib.hid (show ∀ v ∈ WV, v.oneCell' = true by rw [hWV]; exact v8_one W)
   have HW := Lib.hid (show ∀ L' : List At, Reads (.own 32 (some gB) (some ⟨gB, oB, none⟩) i c' ((b.drop 8).map v8) :: L') (some ⟨gB, oB + m * 32, none⟩) WV by
    intro L'
    have h := ((Reads.own (L := .own 32 (some gB) (some ⟨gB, oB, none⟩) i c' ((b.drop 8).map v8) :: L') 0 rfl).at (m * 32)).take 32
    rw [← List.map_drop, ← List.map_take, List.drop_drop, show 8 + m * 32 = 8 + 32 * m by omega] at h
    rw [hWV, hW]; exact h)
   have hne := Lib.hid (show ∀ w, (binOp .neq 34 (.agg WV.toArray) (.agg Z32.toArray)).run Tryz.prog w = .ok (.bool (decide (W ≠ z32))) w by intro w; rw [hWV]; exact neB w WL0 (by decide))
   have HE2 := HE.out
   unfold parE at HE2
   rw [if_neg (by have := HN.out; have := HNN.out; omega), if_neg (by have := HN.out; have := HNN.out; omega), show i - 1 = m by have := HNP.out; omega, ← hW] at HE2
   have hnm : (i : Int) - 1 = (m : Int) := by have := HNP.out; omega
   have hz0 : (0 : Int) < (i : Int) := by have := HNP.out; omega
   clear hWV hW hi hlt
   have hb25 := Lib.hid (show ∀ w : World, (Instr.build 34 #[]).run Tryz.prog w = .ok (.agg Z32.toArray) w by intro w; kernel_rfl)
   have hb54 := Lib.hid (show ∀ w : World, (Instr.build 67 #[]).run Tryz.prog w = .ok (.agg #[.int .u8 0, .int .u8 0, .int .u16 0, .int .u32 0]) w by intro w; kernel_rfl)
   have ZO := Lib.hid (show ∀ v ∈ Z32, v.oneCell' = true from v8_one z32)
   have ZL := Lib.hid (show Z32.length = 32 by rfl)
   have HL := Lib.hid (show 4 = H.length by rw [HHE2.out]; rfl)
   have HO := Lib.hid (show ∀ v ∈ H, v.oneCell' = true by rw [HHE2.out]; simp [Value.oneCell'])
   obtain ⟨hk, hf, hH0, hH1, hd1, hd2⟩ : ∃ hk hf : BitVec 8, H[0]? = some (.int .u8 (n8 hk)) ∧ H[1]? = some (.int .u8 (n8 hf)) ∧ (hdOf b).k = hk ∧ (hdOf b).f = hf := ⟨_, _, by rw [HHE.out]; rfl, by rw [HHE.out]; rfl, rfl, rfl⟩
   have H0 := Lib.hid hH0
   have H1 := Lib.hid hH1
   rw [hd1, hd2] at HE2
   have HE3 := Lib.hid HE2
   clear hH0 hH1 hd1 hd2 HE2 HHE2 HH HE
   obtain ⟨ZZ, hZZ⟩ : ∃ ZZ, ZZ = Z32 := ⟨_, rfl⟩
   have aI := Lib.hid a32I
   rw [← hZZ] at hne hb25 ZO ZL aI
   clear hZZ
   go_upto_region 18 with (first | ((with_reducible refine Se.isL (o := ⟨some 76, _, _, _, _, _⟩) ?_); (refine Se.toL rfl (Se.bd (o := ⟨some 76, _, _, _, _, _⟩) rfl rfl (hb25.out _) ?_))) | ((with_reducible refine Se.isL (o := ⟨some 15, _, _, _, _, _⟩) ?_); (refine Se.toL rfl (Se.al (o := ⟨some 15, _, _, _, _, _⟩) hs rfl (aI.out) ?_); clear hs; rintro w g15 - hs)) | ((with_reducible refine Se.isL (o := ⟨none, _, _, _, _, _⟩) ?_); (refine Se.toL rfl (Se.sow 0 hs rfl rfl rfl rfl (ZO.out) ((by rw [ZL.out]; kernel_rfl)) (rfl) ?_); clear hs; intro w hs; try simp only [List.cons_append, List.nil_append, List.set_cons_zero] at hs)) | ((with_reducible refine Se.isL (o := ⟨some 83, _, _, _, _, _⟩) ?_); (refine Se.toL rfl (Se.ldw (o := ⟨some 83, _, _, _, _, _⟩) hs rfl rfl (((HW.out _).cons _)) ((by rw [WL.out]; kernel_rfl)) (by kernel_rfl) ?_))) | ((with_reducible refine Se.isL (o := ⟨none, _, _, _, _, _⟩) ?_); (refine Se.toL rfl (Se.sow 0 hs rfl rfl rfl rfl (WO.out) ((by rw [WL.out]; kernel_rfl)) ((by rw [WL.out, ZL.out])) ?_); clear hs; intro w hs; try simp only [List.cons_append, List.nil_append, List.set_cons_zero] at hs)))
   clear hnm hz0
   by_cases hc1 : hk = kind
   ·by_cases hc2 : fl.toNat < hf.toNat
    ·have e6 := Lib.hid (show E = 6 by rw [HE3.out, if_pos (.inr (.inl hc2))])
     have d1 : (n8 hk != n8 kind) = false := by rw [hc1]; simp
     have d2 : decide (n8 fl < n8 hf) = true := by unfold n8; simp; exact hc2
     clear hc1 hc2
     go_wp2_with (first | ((with_reducible refine Se.isL (o := ⟨some 85, _, _, _, _, _⟩) ?_); (refine Se.toL rfl (Se.ld (o := ⟨some 85, _, _, _, _, _⟩) hs rfl rfl (Cell.blk 2 rfl H0.out) (by kernel_rfl) ?_))) | ((with_reducible refine Se.isL (o := ⟨some 90, _, _, _, _, _⟩) ?_); (refine Se.toL rfl (Se.ld (o := ⟨some 90, _, _, _, _, _⟩) hs rfl rfl (Cell.blk 2 rfl H1.out) (by kernel_rfl) ?_))) | ((with_reducible refine Se.isL (o := ⟨some 108, _, _, _, _, _⟩) ?_); (refine Se.toL rfl (Se.bd (o := ⟨some 108, _, _, _, _, _⟩) rfl rfl (hb54.out _) ?_))) | ((with_reducible refine Se.isL (o := ⟨none, _, _, _, _, _⟩) ?_); (refine Se.toL rfl (Se.sow 2 hs rfl rfl rfl rfl ((by simp [Value.oneCell'])) ((by kernel_rfl)) (HL.out) ?_); clear hs; intro w hs; try simp only [List.cons_append, List.nil_append, List.set_cons_zero, List.set_cons_succ] at hs)))
     refine Se.ret hs [.agg #[.int .u8 0, .int .u8 0, .int .u16 0, .int .u32 0], .slice none 0 0, .int .i64 6] rfl ⟨Se.resRow rfl (Reads.blk 2 rfl) (by kernel_rfl) (by kernel_rfl), rfl, rfl, trivial⟩ (by simp) rfl ?_
     exact .inl ⟨by have := e6.out; omega, by rw [e6.out]; rfl, hs.drop.drop.drop⟩
    ·have d2 : decide (n8 fl < n8 hf) = false := by unfold n8; simp; omega
     by_cases hc3 : 0 < fl.toNat
     ·have d3 : decide (0 < n8 fl) = true := by unfold n8; simp; omega
      by_cases hc4 : hf = 0#8
      ·have d4 : (n8 hf == 0) = true := by rw [hc4]; rfl
       by_cases hc5 : W = z32
       ·have e0 := Lib.hid (show E = 0 by rw [HE3.out, if_neg (by simp [hc1, hc2, hc5])])
        have d1 : (n8 hk != n8 kind) = false := by rw [hc1]; simp
        have d5 : decide (W ≠ z32) = false := by simp [hc5]
        have hne := hne.out
        rw [d5] at hne
        clear hc1 hc2 hc3 hc4 hc5 d5
        go_wp2_with (first | ((with_reducible refine Se.isL (o := ⟨some 85, _, _, _, _, _⟩) ?_); (refine Se.toL rfl (Se.ld (o := ⟨some 85, _, _, _, _, _⟩) hs rfl rfl (Cell.blk 2 rfl H0.out) (by kernel_rfl) ?_))) | ((with_reducible refine Se.isL (o := ⟨some 90, _, _, _, _, _⟩) ?_); (refine Se.toL rfl (Se.ld (o := ⟨some 90, _, _, _, _, _⟩) hs rfl rfl (Cell.blk 2 rfl H1.out) (by kernel_rfl) ?_))) | ((with_reducible refine Se.isL (o := ⟨some 99, _, _, _, _, _⟩) ?_); (refine Se.toL rfl (Se.ld (o := ⟨some 99, _, _, _, _, _⟩) hs rfl rfl (Cell.blk 2 rfl H1.out) (by kernel_rfl) ?_))) | ((with_reducible refine Se.isL (o := ⟨some 103, _, _, _, _, _⟩) ?_); (refine Se.toL rfl (Se.ldw (o := ⟨some 103, _, _, _, _, _⟩) hs rfl rfl ((Reads.blk 0 rfl)) ((by rw [WL.out]; kernel_rfl)) (by kernel_rfl) ?_))) | ((with_reducible refine Se.isL (o := ⟨some 104, _, _, _, _, _⟩) ?_); (refine Se.toL rfl (Se.bd (o := ⟨some 104, _, _, _, _, _⟩) rfl rfl (hb25.out _) ?_))) | ((with_reducible refine Se.isL (o := ⟨some 109, _, _, _, _, _⟩) ?_); (refine Se.toL rfl (Se.ldw (o := ⟨some 109, _, _, _, _, _⟩) hs rfl rfl ((Reads.blk 2 rfl)) ((by rw [← HL.out]; kernel_rfl)) (by kernel_rfl) ?_))) | ((with_reducible refine Se.isL (o := ⟨none, _, _, _, _, _⟩) ?_); (refine Se.toL rfl (Se.sow 2 hs rfl rfl rfl rfl (HO.out) ((by rw [← HL.out]; kernel_rfl)) (rfl) ?_); clear hs; intro w hs; try simp only [List.cons_append, List.nil_append, List.set_cons_zero, List.set_cons_succ] at hs)))
        refine Se.ret hs [.agg H.toArray, .slice (some ⟨gB, oB, none⟩) i c', .int .i64 0] rfl ⟨Se.resRow rfl (Reads.blk 2 rfl) (by kernel_rfl) (by rw [← HL.out]; kernel_rfl), rfl, rfl, trivial⟩ (by simp) rfl ?_
        exact .inr ⟨e0.out, _, _, _, by rw [← HHE.out], hs.drop.perm (List.Perm.swap _ _ _) |>.drop⟩
       ·have e6 := Lib.hid (show E = 6 by rw [HE3.out, if_pos (.inr (.inr ⟨hc3, hc4, hc5⟩))])
        have d1 : (n8 hk != n8 kind) = false := by rw [hc1]; simp
        have d5 : decide (W ≠ z32) = true := by simp [hc5]
        have hne := hne.out
        rw [d5] at hne
        clear hc1 hc2 hc3 hc4 hc5 d5
        go_wp2_with (first | ((with_reducible refine Se.isL (o := ⟨some 85, _, _, _, _, _⟩) ?_); (refine Se.toL rfl (Se.ld (o := ⟨some 85, _, _, _, _, _⟩) hs rfl rfl (Cell.blk 2 rfl H0.out) (by kernel_rfl) ?_))) | ((with_reducible refine Se.isL (o := ⟨some 90, _, _, _, _, _⟩) ?_); (refine Se.toL rfl (Se.ld (o := ⟨some 90, _, _, _, _, _⟩) hs rfl rfl (Cell.blk 2 rfl H1.out) (by kernel_rfl) ?_))) | ((with_reducible refine Se.isL (o := ⟨some 99, _, _, _, _, _⟩) ?_); (refine Se.toL rfl (Se.ld (o := ⟨some 99, _, _, _, _, _⟩) hs rfl rfl (Cell.blk 2 rfl H1.out) (by kernel_rfl) ?_))) | ((with_reducible refine Se.isL (o := ⟨some 103, _, _, _, _, _⟩) ?_); (refine Se.toL rfl (Se.ldw (o := ⟨some 103, _, _, _, _, _⟩) hs rfl rfl ((Reads.blk 0 rfl)) ((by rw [WL.out]; kernel_rfl)) (by kernel_rfl) ?_))) | ((with_reducible refine Se.isL (o := ⟨some 104, _, _, _, _, _⟩) ?_); (refine Se.toL rfl (Se.bd (o := ⟨some 104, _, _, _, _, _⟩) rfl rfl (hb25.out _) ?_))) | ((with_reducible refine Se.isL (o := ⟨some 108, _, _, _, _, _⟩) ?_); (refine Se.toL rfl (Se.bd (o := ⟨some 108, _, _, _, _, _⟩) rfl rfl (hb54.out _) ?_))) | ((with_reducible refine Se.isL (o := ⟨none, _, _, _, _, _⟩) ?_); (refine Se.toL rfl (Se.sow 2 hs rfl rfl rfl rfl ((by simp [Value.oneCell'])) ((by kernel_rfl)) (HL.out) ?_); clear hs; intro w hs; try simp only [List.cons_append, List.nil_append, List.set_cons_zero, List.set_cons_succ] at hs)))
        refine Se.ret hs [.agg #[.int .u8 0, .int .u8 0, .int .u16 0, .int .u32 0], .slice none 0 0, .int .i64 6] rfl ⟨Se.resRow rfl (Reads.blk 2 rfl) (by kernel_rfl) (by kernel_rfl), rfl, rfl, trivial⟩ (by simp) rfl ?_
        exact .inl ⟨by have := e6.out; omega, by rw [e6.out]; rfl, hs.drop.drop.drop⟩
      ·have d4 : (n8 hf == 0) = false := by rw [show (0 : Int) = n8 0#8 from rfl, Bv.n8_beq]; simpa using hc4
       have e0 := Lib.hid (show E = 0 by rw [HE3.out, if_neg (by simp [hc1, hc2, hc4])])
       have d1 : (n8 hk != n8 kind) = false := by rw [hc1]; simp
       clear hc1 hc2 hc3 hc4
       go_wp2_with (first | ((with_reducible refine Se.isL (o := ⟨some 85, _, _, _, _, _⟩) ?_); (refine Se.toL rfl (Se.ld (o := ⟨some 85, _, _, _, _, _⟩) hs rfl rfl (Cell.blk 2 rfl H0.out) (by kernel_rfl) ?_))) | ((with_reducible refine Se.isL (o := ⟨some 90, _, _, _, _, _⟩) ?_); (refine Se.toL rfl (Se.ld (o := ⟨some 90, _, _, _, _, _⟩) hs rfl rfl (Cell.blk 2 rfl H1.out) (by kernel_rfl) ?_))) | ((with_reducible refine Se.isL (o := ⟨some 99, _, _, _, _, _⟩) ?_); (refine Se.toL rfl (Se.ld (o := ⟨some 99, _, _, _, _, _⟩) hs rfl rfl (Cell.blk 2 rfl H1.out) (by kernel_rfl) ?_))) | ((with_reducible refine Se.isL (o := ⟨some 109, _, _, _, _, _⟩) ?_); (refine Se.toL rfl (Se.ldw (o := ⟨some 109, _, _, _, _, _⟩) hs rfl rfl ((Reads.blk 2 rfl)) ((by rw [← HL.out]; kernel_rfl)) (by kernel_rfl) ?_))) | ((with_reducible refine Se.isL (o := ⟨none, _, _, _, _, _⟩) ?_); (refine Se.toL rfl (Se.sow 2 hs rfl rfl rfl rfl (HO.out) ((by rw [← HL.out]; kernel_rfl)) (rfl) ?_); clear hs; intro w hs; try simp only [List.cons_append, List.nil_append, List.set_cons_zero, List.set_cons_succ] at hs)))
       refine Se.ret hs [.agg H.toArray, .slice (some ⟨gB, oB, none⟩) i c', .int .i64 0] rfl ⟨Se.resRow rfl (Reads.blk 2 rfl) (by kernel_rfl) (by rw [← HL.out]; kernel_rfl), rfl, rfl, trivial⟩ (by simp) rfl ?_
       exact .inr ⟨e0.out, _, _, _, by rw [← HHE.out], hs.drop.perm (List.Perm.swap _ _ _) |>.drop⟩
     ·have d3 : decide (0 < n8 fl) = false := by unfold n8; simp; omega
      have e0 := Lib.hid (show E = 0 by rw [HE3.out, if_neg (by simp [hc1, hc2, hc3])])
      have d1 : (n8 hk != n8 kind) = false := by rw [hc1]; simp
      clear hc1 hc2 hc3
      go_wp2_with (first | ((with_reducible refine Se.isL (o := ⟨some 85, _, _, _, _, _⟩) ?_); (refine Se.toL rfl (Se.ld (o := ⟨some 85, _, _, _, _, _⟩) hs rfl rfl (Cell.blk 2 rfl H0.out) (by kernel_rfl) ?_))) | ((with_reducible refine Se.isL (o := ⟨some 90, _, _, _, _, _⟩) ?_); (refine Se.toL rfl (Se.ld (o := ⟨some 90, _, _, _, _, _⟩) hs rfl rfl (Cell.blk 2 rfl H1.out) (by kernel_rfl) ?_))) | ((with_reducible refine Se.isL (o := ⟨some 109, _, _, _, _, _⟩) ?_); (refine Se.toL rfl (Se.ldw (o := ⟨some 109, _, _, _, _, _⟩) hs rfl rfl ((Reads.blk 2 rfl)) ((by rw [← HL.out]; kernel_rfl)) (by kernel_rfl) ?_))) | ((with_reducible refine Se.isL (o := ⟨none, _, _, _, _, _⟩) ?_); (refine Se.toL rfl (Se.sow 2 hs rfl rfl rfl rfl (HO.out) ((by rw [← HL.out]; kernel_rfl)) (rfl) ?_); clear hs; intro w hs; try simp only [List.cons_append, List.nil_append, List.set_cons_zero, List.set_cons_succ] at hs)))
      refine Se.ret hs [.agg H.toArray, .slice (some ⟨gB, oB, none⟩) i c', .int .i64 0] rfl ⟨Se.resRow rfl (Reads.blk 2 rfl) (by kernel_rfl) (by rw [← HL.out]; kernel_rfl), rfl, rfl, trivial⟩ (by simp) rfl ?_
      exact .inr ⟨e0.out, _, _, _, by rw [← HHE.out], hs.drop.perm (List.Perm.swap _ _ _) |>.drop⟩
   ·have e6 := Lib.hid (show E = 6 by rw [HE3.out, if_pos (.inl hc1)])
    have d1 : (n8 hk != n8 kind) = true := by rw [bne, Bv.n8_beq]; simpa using hc1
    clear hc1
    go_wp2_with (first | ((with_reducible refine Se.isL (o := ⟨some 85, _, _, _, _, _⟩) ?_); (refine Se.toL rfl (Se.ld (o := ⟨some 85, _, _, _, _, _⟩) hs rfl rfl (Cell.blk 2 rfl H0.out) (by kernel_rfl) ?_))) | ((with_reducible refine Se.isL (o := ⟨some 108, _, _, _, _, _⟩) ?_); (refine Se.toL rfl (Se.bd (o := ⟨some 108, _, _, _, _, _⟩) rfl rfl (hb54.out _) ?_))) | ((with_reducible refine Se.isL (o := ⟨none, _, _, _, _, _⟩) ?_); (refine Se.toL rfl (Se.sow 2 hs rfl rfl rfl rfl ((by simp [Value.oneCell'])) ((by kernel_rfl)) (HL.out) ?_); clear hs; intro w hs; try simp only [List.cons_append, List.nil_append, List.set_cons_zero, List.set_cons_succ] at hs)))
    refine Se.ret hs [.agg #[.int .u8 0, .int .u8 0, .int .u16 0, .int .u32 0], .slice none 0 0, .int .i64 6] rfl ⟨Se.resRow rfl (Reads.blk 2 rfl) (by kernel_rfl) (by kernel_rfl), rfl, rfl, trivial⟩ (by simp) rfl ?_
    exact .inl ⟨by have := e6.out; omega, by rw [e6.out]; rfl, hs.drop.drop.drop⟩
end
end Au
end Go.Proofs.YtakdoijemopejaaGreat

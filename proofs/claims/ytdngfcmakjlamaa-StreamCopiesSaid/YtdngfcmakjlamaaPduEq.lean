/- Layer 35: Equal. No condition but Go's own limits. -/
import Derived.Test.YtdngfcmakjlamaaPduHv
set_option linter.unusedSimpArgs false
set_option linter.unusedVariables false
namespace Go.Proofs.Ytdngfcmakjlamaa
open Go Go.RowKit
namespace Pd
open Se (St At Reads Cell)
open Li (v8 v8_one Rd Blk Fr)
open Bv (n8 n16 n32 n64)
variable {w0 w : World} {X : List Nat} {L : List At}
attribute [local irreducible] Calls
/-- The fields are equal. -/
def eqH (h q : Hd) : Bool :=
 n8 h.k == n8 q.k && h.la == q.la && h.su == q.su && n16 h.id == n16 q.id && n16 h.tg == n16 q.tg && n32 h.of == n32 q.of && n32 h.ln == n32 q.ln && n8 h.al == n8 q.al && n8 h.dg == n8 q.dg && n32 h.mx == n32 q.mx && n16 h.st == n16 q.st && n32 h.nf == n32 q.nf
theorem eqH_iff (h q : Hd) : eqH h q = decide (h = q) := by
 obtain ⟨a0, a1, a2, a3, a4, a5, a6, a7, a8, a9, a10, a11⟩ := h
 obtain ⟨b0, b1, b2, b3, b4, b5, b6, b7, b8, b9, b10, b11⟩ := q
 rw [Bool.eq_iff_iff]
 simp only [eqH, Bool.and_eq_true, beq_iff_eq, Bv.n8_eq_iff, Bv.n16_eq_iff, Bv.n32_eq_iff, decide_eq_true_eq, Hd.mk.injEq]
 simp only [and_assoc]
theorem zPdu : ∃ Z, (Try.prog.info? 41).bind (fun i => i.zero.map (·.cells.toList)) = some Z ∧ Z.length = 14 := ⟨pc {} none 0 0 none 0 0, by kernel_rfl, rfl⟩
set_option maxRecDepth 100000 in
set_option maxHeartbeats 4000000 in
theorem equalP_st (hs : St w0 X L w) (h q : Hd) {EA DA EB DB : Option Addr} {en ec dn dc em ed dm dd : Nat} {es fs da db : List (BitVec 8)} (he : en = es.length) (hf : em = fs.length) (hd : dn = da.length) (hb : dm = db.length) (hE : Reads L EA (es.map v8)) (hF : Reads L EB (fs.map v8)) (hD : Reads L DA (da.map v8)) (hG : Reads L DB (db.map v8)) (le : en ≤ 70368744177664) (ld : dn ≤ 70368744177664) {r : Bool} (hr : (es == fs && da == db && eqH h q) = r) :
  Calls Try.prog 73 #[.agg (pc h EA en ec DA dn dc).toArray, .agg (pc q EB em ed DB dm dd).toArray] w fun e w' => e = .returned (.bool r) ∧ St w0 X L w' := by
 obtain ⟨b1, hb1⟩ : ∃ b, (es == fs) = b := ⟨_, rfl⟩
 obtain ⟨b2, hb2⟩ : ∃ b, (da == db) = b := ⟨_, rfl⟩
 have C1 := Lib.hid (fun (L' : List At) (w : World) (hs : St w0 X (L' ++ L) w) => equal_st (c := ec) (d := ed) hs he hf (hE.app L') (hF.app L') le hb1)
 have C2 := Lib.hid (fun (L' : List At) (w : World) (hs : St w0 X (L' ++ L) w) => equal_st (c := dc) (d := dd) hs hd hb (hD.app L') (hG.app L') ld hb2)
 rw [hb1, hb2] at hr
 have HR := Lib.hid hr
 obtain ⟨Z, hZ, hZL⟩ := zPdu
 have HZ := Lib.hid hZ
 have ZL := Lib.hid hZL
 clear hb1 hb2 he hf hd hb hE hF hD hG hr hZ hZL
 cases b1 with
 | false =>
  obtain rfl : r = false := HR.out.symm
  unfold pc at *
  go_enter Try.func73, Try.ntmps73
  go_wp2_with (first | ((with_reducible refine Se.isL (o := ⟨some 8, _, _, _, _, _⟩) ?_); (refine Se.toL rfl (Se.ld (o := ⟨some 8, _, _, _, _, _⟩) hs rfl rfl (Cell.blk 1 rfl rfl) (by kernel_rfl) ?_))) | ((with_reducible refine Se.isL (o := ⟨some 10, _, _, _, _, _⟩) ?_); (refine Se.toL rfl (Se.ld (o := ⟨some 10, _, _, _, _, _⟩) hs rfl rfl (Cell.blk 0 rfl rfl) (by kernel_rfl) ?_))) | ((first | with_reducible refine Se.ab hs ?_ | with_reducible refine Se.abc hs ?_); clear hs; (first | ((fail_if_success (have _q := g2)); generalize w.heap.size = g2; intro w hs) | (generalize w.heap.size = g3; intro w hs))) | (go_at_call 97; refine Calls.mono (C1.out [_, _] _ hs) ?_; clear hs; rintro e w ⟨rfl, hs⟩))
  go_ret
  exact ⟨rfl, hs.drop.drop⟩
 | true =>
  cases b2 with
  | false =>
   obtain rfl : r = false := HR.out.symm
   unfold pc at *
   go_enter Try.func73, Try.ntmps73
   go_wp2_with (first | ((with_reducible refine Se.isL (o := ⟨some 8, _, _, _, _, _⟩) ?_); (refine Se.toL rfl (Se.ld (o := ⟨some 8, _, _, _, _, _⟩) hs rfl rfl (Cell.blk 1 rfl rfl) (by kernel_rfl) ?_))) | ((with_reducible refine Se.isL (o := ⟨some 10, _, _, _, _, _⟩) ?_); (refine Se.toL rfl (Se.ld (o := ⟨some 10, _, _, _, _, _⟩) hs rfl rfl (Cell.blk 0 rfl rfl) (by kernel_rfl) ?_))) | ((with_reducible refine Se.isL (o := ⟨some 15, _, _, _, _, _⟩) ?_); (refine Se.toL rfl (Se.ld (o := ⟨some 15, _, _, _, _, _⟩) hs rfl rfl (Cell.blk 1 rfl rfl) (by kernel_rfl) ?_))) | ((with_reducible refine Se.isL (o := ⟨some 17, _, _, _, _, _⟩) ?_); (refine Se.toL rfl (Se.ld (o := ⟨some 17, _, _, _, _, _⟩) hs rfl rfl (Cell.blk 0 rfl rfl) (by kernel_rfl) ?_))) | ((first | with_reducible refine Se.ab hs ?_ | with_reducible refine Se.abc hs ?_); clear hs; (first | ((fail_if_success (have _q := g2)); generalize w.heap.size = g2; intro w hs) | (generalize w.heap.size = g3; intro w hs))) | (go_at_call 97; refine Calls.mono (C1.out [_, _] _ hs) ?_; clear hs; rintro e w ⟨rfl, hs⟩) | (go_at_call 97; refine Calls.mono (C2.out [_, _] _ hs) ?_; clear hs; rintro e w ⟨rfl, hs⟩))
   go_ret
   exact ⟨rfl, hs.drop.drop⟩
  | true =>
   have HQ : Hid (eqH h q = r) := Lib.hid (by simpa using HR.out)
   clear HR
   go_enter Try.func73, Try.ntmps73
   go_upto_region 3 with (first | ((with_reducible refine Se.isL (o := ⟨some 8, _, _, _, _, _⟩) ?_); (refine Se.toL rfl (Se.ld (o := ⟨some 8, _, _, _, _, _⟩) hs rfl rfl (Cell.blk 1 rfl rfl) (by kernel_rfl) ?_))) | ((with_reducible refine Se.isL (o := ⟨some 10, _, _, _, _, _⟩) ?_); (refine Se.toL rfl (Se.ld (o := ⟨some 10, _, _, _, _, _⟩) hs rfl rfl (Cell.blk 0 rfl rfl) (by kernel_rfl) ?_))) | ((with_reducible refine Se.isL (o := ⟨some 15, _, _, _, _, _⟩) ?_); (refine Se.toL rfl (Se.ld (o := ⟨some 15, _, _, _, _, _⟩) hs rfl rfl (Cell.blk 1 rfl rfl) (by kernel_rfl) ?_))) | ((with_reducible refine Se.isL (o := ⟨some 17, _, _, _, _, _⟩) ?_); (refine Se.toL rfl (Se.ld (o := ⟨some 17, _, _, _, _, _⟩) hs rfl rfl (Cell.blk 0 rfl rfl) (by kernel_rfl) ?_))) | ((first | with_reducible refine Se.ab hs ?_ | with_reducible refine Se.abc hs ?_); clear hs; (first | ((fail_if_success (have _q := g2)); generalize w.heap.size = g2; intro w hs) | (generalize w.heap.size = g3; intro w hs))) | (go_at_call 97; refine Calls.mono (C1.out [_, _] _ hs) ?_; clear hs; rintro e w ⟨rfl, hs⟩) | (go_at_call 97; refine Calls.mono (C2.out [_, _] _ hs) ?_; clear hs; rintro e w ⟨rfl, hs⟩))
   go_cut [5, 6] (fun s5 s6 wx => ∃ g5 g6 : Nat, s5 = .pointer (some ⟨g5, 0, none⟩) ∧ s6 = .pointer (some ⟨g6, 0, none⟩) ∧ St w0 X (.blk g5 41 (pc h EA en ec DA dn dc) :: .blk g6 41 (pc q EB em ed DB dm dd) :: .blk g3 41 (pc q EB em ed DB dm dd) :: .blk g2 41 (pc h EA en ec DA dn dc) :: L) wx)
   case first =>
    refine Or.region 6 (fun wx => Li.Blk wx g2 (pc h EA en ec DA dn dc) 41 ∧ Li.Blk wx g3 (pc q EB em ed DB dm dd) 41) (fun | 2 => true | 3 => true | 4 => true | 5 => true | _ => false) (by kernel_rfl) (by decide +kernel) (⟨hs.drew.hold (.blk g2 41 (pc h EA en ec DA dn dc)) (by simp [pc]), hs.drew.hold (.blk g3 41 (pc q EB em ed DB dm dd)) (by simp [pc])⟩) ?_
    replace hs := hs.drew
    generalize w.drew = w at hs ⊢
    change Or.AW _ _ _ _ _ 6 [0, 1, 2, 3, 4, 5] _ _
    refine Or.pure 0 (v := .agg (pc h EA en ec DA dn dc).toArray) (by rfl) (by decide +kernel) (by rfl) (by rfl) (by rfl) (fun wx hS => Se.xla rfl rfl (Li.Rd.of_blk hS.1) (by kernel_rfl) (by kernel_rfl)) ?_
    (try simp only [Act.put, List.setIfInBounds_toArray, List.set_cons_zero, List.set_cons_succ])
    change Or.AW _ _ _ _ _ 5 [1, 2, 3, 4, 5] _ _
    refine Or.pure 1 (v := .agg (pc q EB em ed DB dm dd).toArray) (by rfl) (by decide +kernel) (by rfl) (by rfl) (by rfl) (fun wx hS => Se.xla rfl rfl (Li.Rd.of_blk hS.2) (by kernel_rfl) (by kernel_rfl)) ?_
    (try simp only [Act.put, List.setIfInBounds_toArray, List.set_cons_zero, List.set_cons_succ])
    change Or.AW _ _ _ _ _ 4 [2, 3, 4, 5] _ _
    refine Or.two 2 3 (by decide +kernel) (by decide +kernel) (by rfl) (by rfl) (by rfl) (by rfl) ?_ ?_
    ·skip
     refine Se.al hs rfl HZ.out ?_
     clear hs
     rintro w g5 - hs
     refine ⟨⟨hs.hold (.blk g2 41 (pc h EA en ec DA dn dc)) (by simp), hs.hold (.blk g3 41 (pc q EB em ed DB dm dd)) (by simp)⟩, ?_⟩
     (try simp only [Act.put, List.setIfInBounds_toArray, List.set_cons_zero, List.set_cons_succ])
     change Or.AW _ _ _ _ _ 3 [3, 4, 5] _ _
     refine Or.one 3 (by decide +kernel) (by decide +kernel) (by rfl) (by rfl) ?_
     refine Se.al hs rfl HZ.out ?_
     clear hs
     rintro w g6 - hs
     refine ⟨⟨hs.hold (.blk g2 41 (pc h EA en ec DA dn dc)) (by simp), hs.hold (.blk g3 41 (pc q EB em ed DB dm dd)) (by simp)⟩, ?_⟩
     (try simp only [Act.put, List.setIfInBounds_toArray, List.set_cons_zero, List.set_cons_succ])
     change Or.AW _ _ _ _ _ 2 [4, 5] _ _
     refine Or.one 4 (by decide +kernel) (by decide +kernel) (by rfl) (by rfl) ?_
     refine Se.sow 1 (vs := (pc h EA en ec DA dn dc)) hs rfl rfl rfl rfl (pc_one _ _ _ _ _ _ _) (by kernel_rfl) (by rw [ZL.out]; rfl) ?_
     clear hs
     intro w hs
     simp only [List.set_cons_zero, List.set_cons_succ] at hs
     refine ⟨⟨hs.hold (.blk g2 41 (pc h EA en ec DA dn dc)) (by simp), hs.hold (.blk g3 41 (pc q EB em ed DB dm dd)) (by simp)⟩, ?_⟩
     (try simp only [Act.put, List.setIfInBounds_toArray, List.set_cons_zero, List.set_cons_succ])
     change Or.AW _ _ _ _ _ 1 [5] _ _
     refine Or.one 5 (by decide +kernel) (by decide +kernel) (by rfl) (by rfl) ?_
     refine Se.sow 0 (vs := (pc q EB em ed DB dm dd)) hs rfl rfl rfl rfl (pc_one _ _ _ _ _ _ _) (by kernel_rfl) (by rw [ZL.out]; rfl) ?_
     clear hs
     intro w hs
     simp only [List.set_cons_zero, List.set_cons_succ] at hs
     refine ⟨⟨hs.hold (.blk g2 41 (pc h EA en ec DA dn dc)) (by simp), hs.hold (.blk g3 41 (pc q EB em ed DB dm dd)) (by simp)⟩, ?_⟩
     (try simp only [Act.put, List.setIfInBounds_toArray, List.set_cons_zero, List.set_cons_succ])
     change Or.AW _ _ _ _ _ 0 [] _ _
     refine Or.done ?_
     simp only [List.drop_succ_cons, List.drop_zero]
     go_wp2_with fail
     go_meet
     replace hs := hs.pull 1 rfl
     exact ⟨g5, g6, rfl, rfl, hs⟩
    ·skip
     refine Se.al hs rfl HZ.out ?_
     clear hs
     rintro w g6 - hs
     refine ⟨⟨hs.hold (.blk g2 41 (pc h EA en ec DA dn dc)) (by simp), hs.hold (.blk g3 41 (pc q EB em ed DB dm dd)) (by simp)⟩, ?_⟩
     (try simp only [Act.put, List.setIfInBounds_toArray, List.set_cons_zero, List.set_cons_succ])
     change Or.AW _ _ _ _ _ 3 [2, 4, 5] _ _
     refine Or.one 2 (by decide +kernel) (by decide +kernel) (by rfl) (by rfl) ?_
     refine Se.al hs rfl HZ.out ?_
     clear hs
     rintro w g5 - hs
     refine ⟨⟨hs.hold (.blk g2 41 (pc h EA en ec DA dn dc)) (by simp), hs.hold (.blk g3 41 (pc q EB em ed DB dm dd)) (by simp)⟩, ?_⟩
     (try simp only [Act.put, List.setIfInBounds_toArray, List.set_cons_zero, List.set_cons_succ])
     change Or.AW _ _ _ _ _ 2 [4, 5] _ _
     refine Or.one 4 (by decide +kernel) (by decide +kernel) (by rfl) (by rfl) ?_
     refine Se.sow 0 (vs := (pc h EA en ec DA dn dc)) hs rfl rfl rfl rfl (pc_one _ _ _ _ _ _ _) (by kernel_rfl) (by rw [ZL.out]; rfl) ?_
     clear hs
     intro w hs
     simp only [List.set_cons_zero, List.set_cons_succ] at hs
     refine ⟨⟨hs.hold (.blk g2 41 (pc h EA en ec DA dn dc)) (by simp), hs.hold (.blk g3 41 (pc q EB em ed DB dm dd)) (by simp)⟩, ?_⟩
     (try simp only [Act.put, List.setIfInBounds_toArray, List.set_cons_zero, List.set_cons_succ])
     change Or.AW _ _ _ _ _ 1 [5] _ _
     refine Or.one 5 (by decide +kernel) (by decide +kernel) (by rfl) (by rfl) ?_
     refine Se.sow 1 (vs := (pc q EB em ed DB dm dd)) hs rfl rfl rfl rfl (pc_one _ _ _ _ _ _ _) (by kernel_rfl) (by rw [ZL.out]; rfl) ?_
     clear hs
     intro w hs
     simp only [List.set_cons_zero, List.set_cons_succ] at hs
     refine ⟨⟨hs.hold (.blk g2 41 (pc h EA en ec DA dn dc)) (by simp), hs.hold (.blk g3 41 (pc q EB em ed DB dm dd)) (by simp)⟩, ?_⟩
     (try simp only [Act.put, List.setIfInBounds_toArray, List.set_cons_zero, List.set_cons_succ])
     change Or.AW _ _ _ _ _ 0 [] _ _
     refine Or.done ?_
     simp only [List.drop_succ_cons, List.drop_zero]
     go_wp2_with fail
     go_meet
     exact ⟨g5, g6, rfl, rfl, hs⟩
   case rest =>
    obtain ⟨g5, g6, rfl, rfl, hs⟩ := hcut
    have B5 := hs.hold (.blk g5 41 (pc h EA en ec DA dn dc)) (by simp)
    have B6 := hs.hold (.blk g6 41 (pc q EB em ed DB dm dd)) (by simp)
    have a0 : wc.cell? ⟨g5, 0, none⟩ = some (.int .u8 (n8 h.k)) := by rw [B5.cell]; rfl
    have b0 : wc.cell? ⟨g6, 0, none⟩ = some (.int .u8 (n8 q.k)) := by rw [B6.cell]; rfl
    have a1 : wc.cell? ⟨g5, 1, none⟩ = some (.bool (h.la)) := by rw [B5.cell]; rfl
    have b1 : wc.cell? ⟨g6, 1, none⟩ = some (.bool (q.la)) := by rw [B6.cell]; rfl
    have a2 : wc.cell? ⟨g5, 2, none⟩ = some (.bool (h.su)) := by rw [B5.cell]; rfl
    have b2 : wc.cell? ⟨g6, 2, none⟩ = some (.bool (q.su)) := by rw [B6.cell]; rfl
    have a4 : wc.cell? ⟨g5, 4, none⟩ = some (.int .u16 (n16 h.id)) := by rw [B5.cell]; rfl
    have b4 : wc.cell? ⟨g6, 4, none⟩ = some (.int .u16 (n16 q.id)) := by rw [B6.cell]; rfl
    have a5 : wc.cell? ⟨g5, 5, none⟩ = some (.int .u16 (n16 h.tg)) := by rw [B5.cell]; rfl
    have b5 : wc.cell? ⟨g6, 5, none⟩ = some (.int .u16 (n16 q.tg)) := by rw [B6.cell]; rfl
    have a6 : wc.cell? ⟨g5, 6, none⟩ = some (.int .u32 (n32 h.of)) := by rw [B5.cell]; rfl
    have b6 : wc.cell? ⟨g6, 6, none⟩ = some (.int .u32 (n32 q.of)) := by rw [B6.cell]; rfl
    have a7 : wc.cell? ⟨g5, 7, none⟩ = some (.int .u32 (n32 h.ln)) := by rw [B5.cell]; rfl
    have b7 : wc.cell? ⟨g6, 7, none⟩ = some (.int .u32 (n32 q.ln)) := by rw [B6.cell]; rfl
    have a8 : wc.cell? ⟨g5, 8, none⟩ = some (.int .u8 (n8 h.al)) := by rw [B5.cell]; rfl
    have b8 : wc.cell? ⟨g6, 8, none⟩ = some (.int .u8 (n8 q.al)) := by rw [B6.cell]; rfl
    have a9 : wc.cell? ⟨g5, 9, none⟩ = some (.int .u8 (n8 h.dg)) := by rw [B5.cell]; rfl
    have b9 : wc.cell? ⟨g6, 9, none⟩ = some (.int .u8 (n8 q.dg)) := by rw [B6.cell]; rfl
    have a10 : wc.cell? ⟨g5, 10, none⟩ = some (.int .u32 (n32 h.mx)) := by rw [B5.cell]; rfl
    have b10 : wc.cell? ⟨g6, 10, none⟩ = some (.int .u32 (n32 q.mx)) := by rw [B6.cell]; rfl
    have a11 : wc.cell? ⟨g5, 11, none⟩ = some (.int .u16 (n16 h.st)) := by rw [B5.cell]; rfl
    have b11 : wc.cell? ⟨g6, 11, none⟩ = some (.int .u16 (n16 q.st)) := by rw [B6.cell]; rfl
    have a12 : wc.cell? ⟨g5, 12, none⟩ = some (.int .u32 (n32 h.nf)) := by rw [B5.cell]; rfl
    have b12 : wc.cell? ⟨g6, 12, none⟩ = some (.int .u32 (n32 q.nf)) := by rw [B6.cell]; rfl
    have HS := Lib.hid (show St w0 X L wc from hs.drop.drop.drop.drop)
    unfold eqH at HQ
    clear B5 B6 hs C1 C2 HZ ZL
    generalize n8 h.k = x0 at a0 HQ
    generalize n8 q.k = y0 at b0 HQ
    generalize h.la = x1 at a1 HQ
    generalize q.la = y1 at b1 HQ
    generalize h.su = x2 at a2 HQ
    generalize q.su = y2 at b2 HQ
    generalize n16 h.id = x4 at a4 HQ
    generalize n16 q.id = y4 at b4 HQ
    generalize n16 h.tg = x5 at a5 HQ
    generalize n16 q.tg = y5 at b5 HQ
    generalize n32 h.of = x6 at a6 HQ
    generalize n32 q.of = y6 at b6 HQ
    generalize n32 h.ln = x7 at a7 HQ
    generalize n32 q.ln = y7 at b7 HQ
    generalize n8 h.al = x8 at a8 HQ
    generalize n8 q.al = y8 at b8 HQ
    generalize n8 h.dg = x9 at a9 HQ
    generalize n8 q.dg = y9 at b9 HQ
    generalize n32 h.mx = x10 at a10 HQ
    generalize n32 q.mx = y10 at b10 HQ
    generalize n16 h.st = x11 at a11 HQ
    generalize n16 q.st = y11 at b11 HQ
    generalize n32 h.nf = x12 at a12 HQ
    generalize n32 q.nf = y12 at b12 HQ
    go_wp2
    all_goals go_ret
    all_goals (refine ⟨?_, HS.out⟩; rw [← HQ.out]; clear HQ HS a0 b0 a1 b1 a2 b2 a4 b4 a5 b5 a6 b6 a7 b7 a8 b8 a9 b9 a10 b10 a11 b11 a12 b12; congr 2; simp_all)
end Pd
end Go.Proofs.Ytdngfcmakjlamaa


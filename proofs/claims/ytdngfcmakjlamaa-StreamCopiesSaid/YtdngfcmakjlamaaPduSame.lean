/- Layer 35: the reference's Same. No condition but Go's own limits. -/
import Derived.Test.YtdngfcmakjlamaaPduStr
set_option linter.unusedSimpArgs false
set_option linter.unusedVariables false
namespace Go.Proofs.Ytdngfcmakjlamaa
open Go Go.RowKit
namespace Pd
open Se (St At Reads Cell)
open Li (v8 v8_one Rd Blk Fr)
open Bv (n8 n16 n32 n64)
variable {w0 w : World} {X : List Nat} {L : List At}
attribute [local irreducible] Calls
theorem strB_list (a b : List (BitVec 8)) : ((strB a).toList = (strB b).toList) = (a = b) := by
 rw [ByteArray.toList_eq, ByteArray.toList_eq]
 refine propext ⟨fun h => strB_inj ?_, fun h => by rw [h]⟩
 have h2 : (strB a).data = (strB b).data := Array.toList_inj.1 h
 unfold strB strOfNums at *
 exact congrArg ByteArray.mk h2
set_option maxRecDepth 100000 in
set_option maxHeartbeats 4000000 in
theorem rSame_st (hs : St w0 X L w) (h q : Hd) {EA DA EB DB : Option Addr} {en ec dn dc em ed dm dd : Nat} {es fs da db : List (BitVec 8)} (he : en = es.length) (hf : em = fs.length) (hd : dn = da.length) (hb : dm = db.length) (hE : Reads L EA (es.map v8)) (hF : Reads L EB (fs.map v8)) (hD : Reads L DA (da.map v8)) (hG : Reads L DB (db.map v8)) {r : Bool} (hr : (es == fs && da == db && eqH h q) = r) :
  Calls Try.prog 26 #[.agg (pc h EA en ec DA dn dc).toArray, .agg (pc q EB em ed DB dm dd).toArray] w fun e w' => e = .returned (.bool r) ∧ St w0 X L w' := by
 obtain ⟨P, hP⟩ : ∃ P, P = pc h EA en ec DA dn dc := ⟨_, rfl⟩
 obtain ⟨Q, hQ⟩ : ∃ Q, Q = pc q EB em ed DB dm dd := ⟨_, rfl⟩
 have P3 := Lib.hid (show P[3]? = some (.slice EA en ec) by rw [hP]; rfl)
 have P13 := Lib.hid (show P[13]? = some (.slice DA dn dc) by rw [hP]; rfl)
 have Q3 := Lib.hid (show Q[3]? = some (.slice EB em ed) by rw [hQ]; rfl)
 have Q13 := Lib.hid (show Q[13]? = some (.slice DB dm dd) by rw [hQ]; rfl)
 obtain ⟨x0, hx0⟩ : ∃ x, x = n8 h.k := ⟨_, rfl⟩
 obtain ⟨y0, hy0⟩ : ∃ y, y = n8 q.k := ⟨_, rfl⟩
 have P0 := Lib.hid (show P[0]? = some (.int .u8 x0) by rw [hP, hx0]; rfl)
 have Q0 := Lib.hid (show Q[0]? = some (.int .u8 y0) by rw [hQ, hy0]; rfl)
 obtain ⟨b0, hb0⟩ : ∃ b, (x0 == y0) = b := ⟨_, rfl⟩
 have n0 : (x0 != y0) = !b0 := by rw [bne, hb0]
 obtain ⟨x1, hx1⟩ : ∃ x, x = h.la := ⟨_, rfl⟩
 obtain ⟨y1, hy1⟩ : ∃ y, y = q.la := ⟨_, rfl⟩
 have P1 := Lib.hid (show P[1]? = some (.bool x1) by rw [hP, hx1]; rfl)
 have Q1 := Lib.hid (show Q[1]? = some (.bool y1) by rw [hQ, hy1]; rfl)
 obtain ⟨b1, hb1⟩ : ∃ b, (x1 == y1) = b := ⟨_, rfl⟩
 have n1 : (x1 != y1) = !b1 := by rw [bne, hb1]
 obtain ⟨x2, hx2⟩ : ∃ x, x = h.su := ⟨_, rfl⟩
 obtain ⟨y2, hy2⟩ : ∃ y, y = q.su := ⟨_, rfl⟩
 have P2 := Lib.hid (show P[2]? = some (.bool x2) by rw [hP, hx2]; rfl)
 have Q2 := Lib.hid (show Q[2]? = some (.bool y2) by rw [hQ, hy2]; rfl)
 obtain ⟨b2, hb2⟩ : ∃ b, (x2 == y2) = b := ⟨_, rfl⟩
 have n2 : (x2 != y2) = !b2 := by rw [bne, hb2]
 obtain ⟨x4, hx4⟩ : ∃ x, x = n16 h.id := ⟨_, rfl⟩
 obtain ⟨y4, hy4⟩ : ∃ y, y = n16 q.id := ⟨_, rfl⟩
 have P4 := Lib.hid (show P[4]? = some (.int .u16 x4) by rw [hP, hx4]; rfl)
 have Q4 := Lib.hid (show Q[4]? = some (.int .u16 y4) by rw [hQ, hy4]; rfl)
 obtain ⟨b4, hb4⟩ : ∃ b, (x4 == y4) = b := ⟨_, rfl⟩
 obtain ⟨x5, hx5⟩ : ∃ x, x = n16 h.tg := ⟨_, rfl⟩
 obtain ⟨y5, hy5⟩ : ∃ y, y = n16 q.tg := ⟨_, rfl⟩
 have P5 := Lib.hid (show P[5]? = some (.int .u16 x5) by rw [hP, hx5]; rfl)
 have Q5 := Lib.hid (show Q[5]? = some (.int .u16 y5) by rw [hQ, hy5]; rfl)
 obtain ⟨b5, hb5⟩ : ∃ b, (x5 == y5) = b := ⟨_, rfl⟩
 obtain ⟨x6, hx6⟩ : ∃ x, x = n32 h.of := ⟨_, rfl⟩
 obtain ⟨y6, hy6⟩ : ∃ y, y = n32 q.of := ⟨_, rfl⟩
 have P6 := Lib.hid (show P[6]? = some (.int .u32 x6) by rw [hP, hx6]; rfl)
 have Q6 := Lib.hid (show Q[6]? = some (.int .u32 y6) by rw [hQ, hy6]; rfl)
 obtain ⟨b6, hb6⟩ : ∃ b, (x6 == y6) = b := ⟨_, rfl⟩
 obtain ⟨x7, hx7⟩ : ∃ x, x = n32 h.ln := ⟨_, rfl⟩
 obtain ⟨y7, hy7⟩ : ∃ y, y = n32 q.ln := ⟨_, rfl⟩
 have P7 := Lib.hid (show P[7]? = some (.int .u32 x7) by rw [hP, hx7]; rfl)
 have Q7 := Lib.hid (show Q[7]? = some (.int .u32 y7) by rw [hQ, hy7]; rfl)
 obtain ⟨b7, hb7⟩ : ∃ b, (x7 == y7) = b := ⟨_, rfl⟩
 obtain ⟨x8, hx8⟩ : ∃ x, x = n8 h.al := ⟨_, rfl⟩
 obtain ⟨y8, hy8⟩ : ∃ y, y = n8 q.al := ⟨_, rfl⟩
 have P8 := Lib.hid (show P[8]? = some (.int .u8 x8) by rw [hP, hx8]; rfl)
 have Q8 := Lib.hid (show Q[8]? = some (.int .u8 y8) by rw [hQ, hy8]; rfl)
 obtain ⟨b8, hb8⟩ : ∃ b, (x8 == y8) = b := ⟨_, rfl⟩
 obtain ⟨x9, hx9⟩ : ∃ x, x = n8 h.dg := ⟨_, rfl⟩
 obtain ⟨y9, hy9⟩ : ∃ y, y = n8 q.dg := ⟨_, rfl⟩
 have P9 := Lib.hid (show P[9]? = some (.int .u8 x9) by rw [hP, hx9]; rfl)
 have Q9 := Lib.hid (show Q[9]? = some (.int .u8 y9) by rw [hQ, hy9]; rfl)
 obtain ⟨b9, hb9⟩ : ∃ b, (x9 == y9) = b := ⟨_, rfl⟩
 obtain ⟨x10, hx10⟩ : ∃ x, x = n32 h.mx := ⟨_, rfl⟩
 obtain ⟨y10, hy10⟩ : ∃ y, y = n32 q.mx := ⟨_, rfl⟩
 have P10 := Lib.hid (show P[10]? = some (.int .u32 x10) by rw [hP, hx10]; rfl)
 have Q10 := Lib.hid (show Q[10]? = some (.int .u32 y10) by rw [hQ, hy10]; rfl)
 obtain ⟨b10, hb10⟩ : ∃ b, (x10 == y10) = b := ⟨_, rfl⟩
 obtain ⟨x11, hx11⟩ : ∃ x, x = n16 h.st := ⟨_, rfl⟩
 obtain ⟨y11, hy11⟩ : ∃ y, y = n16 q.st := ⟨_, rfl⟩
 have P11 := Lib.hid (show P[11]? = some (.int .u16 x11) by rw [hP, hx11]; rfl)
 have Q11 := Lib.hid (show Q[11]? = some (.int .u16 y11) by rw [hQ, hy11]; rfl)
 obtain ⟨b11, hb11⟩ : ∃ b, (x11 == y11) = b := ⟨_, rfl⟩
 obtain ⟨x12, hx12⟩ : ∃ x, x = n32 h.nf := ⟨_, rfl⟩
 obtain ⟨y12, hy12⟩ : ∃ y, y = n32 q.nf := ⟨_, rfl⟩
 have P12 := Lib.hid (show P[12]? = some (.int .u32 x12) by rw [hP, hx12]; rfl)
 have Q12 := Lib.hid (show Q[12]? = some (.int .u32 y12) by rw [hQ, hy12]; rfl)
 obtain ⟨b12, hb12⟩ : ∃ b, (x12 == y12) = b := ⟨_, rfl⟩
 obtain ⟨be, hbe⟩ : ∃ b, (es == fs) = b := ⟨_, rfl⟩
 obtain ⟨bd, hbd⟩ : ∃ b, (da == db) = b := ⟨_, rfl⟩
 obtain ⟨r1, hr1⟩ : ∃ r1, (be && bd && b0 && b1 && b2) = r1 := ⟨_, rfl⟩
 have HR : Hid ((r1 && (b4 && b5 && b6 && b7 && b8 && b9 && b10 && b11 && b12)) = r) := Lib.hid (by rw [← hr, ← hr1, ← hbe, ← hbd]; unfold eqH; rw [← hx0, ← hy0, ← hx1, ← hy1, ← hx2, ← hy2, ← hx4, ← hy4, ← hx5, ← hy5, ← hx6, ← hy6, ← hx7, ← hy7, ← hx8, ← hy8, ← hx9, ← hy9, ← hx10, ← hy10, ← hx11, ← hy11, ← hx12, ← hy12, hb0, hb1, hb2, hb4, hb5, hb6, hb7, hb8, hb9, hb10, hb11, hb12]; simp only [Bool.and_assoc])
 have R1 := Lib.hid hr1
 have SE : ((strB es).toList == (strB fs).toList) = be := by rw [← hbe, Bool.eq_iff_iff]; simp [strB_list]
 have SD : ((strB da).toList == (strB db).toList) = bd := by rw [← hbd, Bool.eq_iff_iff]; simp [strB_list]
 have TE : ((strB es).toList = (strB fs).toList) = (be = true) := by rw [← hbe]; simp [strB_list]
 have TD : ((strB da).toList = (strB db).toList) = (bd = true) := by rw [← hbd]; simp [strB_list]
 have HE := Lib.hid hE
 have HF := Lib.hid hF
 have HD := Lib.hid hD
 have HG := Lib.hid hG
 have LE := Lib.hid he
 have LF := Lib.hid hf
 have LD := Lib.hid hd
 have LG := Lib.hid hb
 rw [← hP, ← hQ]
 clear hr1 hP hQ hr hbe hbd hE hF hD hG he hf hd hb hx0 hy0 hx1 hy1 hx2 hy2 hx4 hy4 hx5 hy5 hx6 hy6 hx7 hy7 hx8 hy8 hx9 hy9 hx10 hy10 hx11 hy11 hx12 hy12
 go_enter Try.func26, Try.ntmps26
 go_upto_region 1 with (first | ((first | with_reducible refine Se.ab hs ?_ | with_reducible refine Se.abc hs ?_); clear hs; (first | ((fail_if_success (have _q := g2)); generalize w.heap.size = g2; intro w hs) | (generalize w.heap.size = g3; intro w hs))))
 have c1 : (convert 24 9 (.slice EA en ec)).run Try.prog w = .ok (.string (strB es)) w := run_str w Try.underlying24 Try.underlying5 Try.underlying9 LE.out ((HE.out.app [_, _]) w hs.hold)
 have c2 : (convert 24 9 (.slice EB em ed)).run Try.prog w = .ok (.string (strB fs)) w := run_str w Try.underlying24 Try.underlying5 Try.underlying9 LF.out ((HF.out.app [_, _]) w hs.hold)
 have c3 : (convert 24 9 (.slice DA dn dc)).run Try.prog w = .ok (.string (strB da)) w := run_str w Try.underlying24 Try.underlying5 Try.underlying9 LD.out ((HD.out.app [_, _]) w hs.hold)
 have c4 : (convert 24 9 (.slice DB dm dd)).run Try.prog w = .ok (.string (strB db)) w := run_str w Try.underlying24 Try.underlying5 Try.underlying9 LG.out ((HG.out.app [_, _]) w hs.hold)
 go_cut [41] (fun s41 wx => s41 = .bool (!r1) ∧ St w0 X ([.blk g3 41 Q, .blk g2 41 P] ++ L) wx)
 case first =>
  cases be with
  | false =>
   obtain rfl : r1 = false := by rw [← R1.out]; simp
   go_wp2_with (first | ((with_reducible refine Se.isL (o := ⟨some 6, _, _, _, _, _⟩) ?_); (refine Se.toL rfl (Se.ld (o := ⟨some 6, _, _, _, _, _⟩) hs rfl rfl (Cell.blk 1 rfl P3.out) (by kernel_rfl) ?_))) | ((with_reducible refine Se.isL (o := ⟨some 9, _, _, _, _, _⟩) ?_); (refine Se.toL rfl (Se.ld (o := ⟨some 9, _, _, _, _, _⟩) hs rfl rfl (Cell.blk 0 rfl Q3.out) (by kernel_rfl) ?_))))
   go_meet
   exact ⟨rfl, hs⟩
  | true =>
   cases bd with
   | false =>
    obtain rfl : r1 = false := by rw [← R1.out]; simp
    go_wp2_with (first | ((with_reducible refine Se.isL (o := ⟨some 6, _, _, _, _, _⟩) ?_); (refine Se.toL rfl (Se.ld (o := ⟨some 6, _, _, _, _, _⟩) hs rfl rfl (Cell.blk 1 rfl P3.out) (by kernel_rfl) ?_))) | ((with_reducible refine Se.isL (o := ⟨some 9, _, _, _, _, _⟩) ?_); (refine Se.toL rfl (Se.ld (o := ⟨some 9, _, _, _, _, _⟩) hs rfl rfl (Cell.blk 0 rfl Q3.out) (by kernel_rfl) ?_))) | ((with_reducible refine Se.isL (o := ⟨some 14, _, _, _, _, _⟩) ?_); (refine Se.toL rfl (Se.ld (o := ⟨some 14, _, _, _, _, _⟩) hs rfl rfl (Cell.blk 1 rfl P13.out) (by kernel_rfl) ?_))) | ((with_reducible refine Se.isL (o := ⟨some 17, _, _, _, _, _⟩) ?_); (refine Se.toL rfl (Se.ld (o := ⟨some 17, _, _, _, _, _⟩) hs rfl rfl (Cell.blk 0 rfl Q13.out) (by kernel_rfl) ?_))))
    go_meet
    exact ⟨rfl, hs⟩
   | true =>
    cases b0 with
    | false =>
     obtain rfl : r1 = false := by rw [← R1.out]; simp
     go_wp2_with (first | ((with_reducible refine Se.isL (o := ⟨some 6, _, _, _, _, _⟩) ?_); (refine Se.toL rfl (Se.ld (o := ⟨some 6, _, _, _, _, _⟩) hs rfl rfl (Cell.blk 1 rfl P3.out) (by kernel_rfl) ?_))) | ((with_reducible refine Se.isL (o := ⟨some 9, _, _, _, _, _⟩) ?_); (refine Se.toL rfl (Se.ld (o := ⟨some 9, _, _, _, _, _⟩) hs rfl rfl (Cell.blk 0 rfl Q3.out) (by kernel_rfl) ?_))) | ((with_reducible refine Se.isL (o := ⟨some 14, _, _, _, _, _⟩) ?_); (refine Se.toL rfl (Se.ld (o := ⟨some 14, _, _, _, _, _⟩) hs rfl rfl (Cell.blk 1 rfl P13.out) (by kernel_rfl) ?_))) | ((with_reducible refine Se.isL (o := ⟨some 17, _, _, _, _, _⟩) ?_); (refine Se.toL rfl (Se.ld (o := ⟨some 17, _, _, _, _, _⟩) hs rfl rfl (Cell.blk 0 rfl Q13.out) (by kernel_rfl) ?_))) | ((with_reducible refine Se.isL (o := ⟨some 23, _, _, _, _, _⟩) ?_); (refine Se.toL rfl (Se.ld (o := ⟨some 23, _, _, _, _, _⟩) hs rfl rfl (Cell.blk 1 rfl P0.out) (by kernel_rfl) ?_))) | ((with_reducible refine Se.isL (o := ⟨some 25, _, _, _, _, _⟩) ?_); (refine Se.toL rfl (Se.ld (o := ⟨some 25, _, _, _, _, _⟩) hs rfl rfl (Cell.blk 0 rfl Q0.out) (by kernel_rfl) ?_))))
     go_meet
     exact ⟨rfl, hs⟩
    | true =>
     cases b1 with
     | false =>
      obtain rfl : r1 = false := by rw [← R1.out]; simp
      go_wp2_with (first | ((with_reducible refine Se.isL (o := ⟨some 6, _, _, _, _, _⟩) ?_); (refine Se.toL rfl (Se.ld (o := ⟨some 6, _, _, _, _, _⟩) hs rfl rfl (Cell.blk 1 rfl P3.out) (by kernel_rfl) ?_))) | ((with_reducible refine Se.isL (o := ⟨some 9, _, _, _, _, _⟩) ?_); (refine Se.toL rfl (Se.ld (o := ⟨some 9, _, _, _, _, _⟩) hs rfl rfl (Cell.blk 0 rfl Q3.out) (by kernel_rfl) ?_))) | ((with_reducible refine Se.isL (o := ⟨some 14, _, _, _, _, _⟩) ?_); (refine Se.toL rfl (Se.ld (o := ⟨some 14, _, _, _, _, _⟩) hs rfl rfl (Cell.blk 1 rfl P13.out) (by kernel_rfl) ?_))) | ((with_reducible refine Se.isL (o := ⟨some 17, _, _, _, _, _⟩) ?_); (refine Se.toL rfl (Se.ld (o := ⟨some 17, _, _, _, _, _⟩) hs rfl rfl (Cell.blk 0 rfl Q13.out) (by kernel_rfl) ?_))) | ((with_reducible refine Se.isL (o := ⟨some 23, _, _, _, _, _⟩) ?_); (refine Se.toL rfl (Se.ld (o := ⟨some 23, _, _, _, _, _⟩) hs rfl rfl (Cell.blk 1 rfl P0.out) (by kernel_rfl) ?_))) | ((with_reducible refine Se.isL (o := ⟨some 25, _, _, _, _, _⟩) ?_); (refine Se.toL rfl (Se.ld (o := ⟨some 25, _, _, _, _, _⟩) hs rfl rfl (Cell.blk 0 rfl Q0.out) (by kernel_rfl) ?_))) | ((with_reducible refine Se.isL (o := ⟨some 30, _, _, _, _, _⟩) ?_); (refine Se.toL rfl (Se.ld (o := ⟨some 30, _, _, _, _, _⟩) hs rfl rfl (Cell.blk 1 rfl P1.out) (by kernel_rfl) ?_))) | ((with_reducible refine Se.isL (o := ⟨some 32, _, _, _, _, _⟩) ?_); (refine Se.toL rfl (Se.ld (o := ⟨some 32, _, _, _, _, _⟩) hs rfl rfl (Cell.blk 0 rfl Q1.out) (by kernel_rfl) ?_))))
      go_meet
      exact ⟨rfl, hs⟩
     | true =>
      cases b2 with
      | false =>
       obtain rfl : r1 = false := by rw [← R1.out]; simp
       go_wp2_with (first | ((with_reducible refine Se.isL (o := ⟨some 6, _, _, _, _, _⟩) ?_); (refine Se.toL rfl (Se.ld (o := ⟨some 6, _, _, _, _, _⟩) hs rfl rfl (Cell.blk 1 rfl P3.out) (by kernel_rfl) ?_))) | ((with_reducible refine Se.isL (o := ⟨some 9, _, _, _, _, _⟩) ?_); (refine Se.toL rfl (Se.ld (o := ⟨some 9, _, _, _, _, _⟩) hs rfl rfl (Cell.blk 0 rfl Q3.out) (by kernel_rfl) ?_))) | ((with_reducible refine Se.isL (o := ⟨some 14, _, _, _, _, _⟩) ?_); (refine Se.toL rfl (Se.ld (o := ⟨some 14, _, _, _, _, _⟩) hs rfl rfl (Cell.blk 1 rfl P13.out) (by kernel_rfl) ?_))) | ((with_reducible refine Se.isL (o := ⟨some 17, _, _, _, _, _⟩) ?_); (refine Se.toL rfl (Se.ld (o := ⟨some 17, _, _, _, _, _⟩) hs rfl rfl (Cell.blk 0 rfl Q13.out) (by kernel_rfl) ?_))) | ((with_reducible refine Se.isL (o := ⟨some 23, _, _, _, _, _⟩) ?_); (refine Se.toL rfl (Se.ld (o := ⟨some 23, _, _, _, _, _⟩) hs rfl rfl (Cell.blk 1 rfl P0.out) (by kernel_rfl) ?_))) | ((with_reducible refine Se.isL (o := ⟨some 25, _, _, _, _, _⟩) ?_); (refine Se.toL rfl (Se.ld (o := ⟨some 25, _, _, _, _, _⟩) hs rfl rfl (Cell.blk 0 rfl Q0.out) (by kernel_rfl) ?_))) | ((with_reducible refine Se.isL (o := ⟨some 30, _, _, _, _, _⟩) ?_); (refine Se.toL rfl (Se.ld (o := ⟨some 30, _, _, _, _, _⟩) hs rfl rfl (Cell.blk 1 rfl P1.out) (by kernel_rfl) ?_))) | ((with_reducible refine Se.isL (o := ⟨some 32, _, _, _, _, _⟩) ?_); (refine Se.toL rfl (Se.ld (o := ⟨some 32, _, _, _, _, _⟩) hs rfl rfl (Cell.blk 0 rfl Q1.out) (by kernel_rfl) ?_))) | ((with_reducible refine Se.isL (o := ⟨some 37, _, _, _, _, _⟩) ?_); (refine Se.toL rfl (Se.ld (o := ⟨some 37, _, _, _, _, _⟩) hs rfl rfl (Cell.blk 1 rfl P2.out) (by kernel_rfl) ?_))) | ((with_reducible refine Se.isL (o := ⟨some 39, _, _, _, _, _⟩) ?_); (refine Se.toL rfl (Se.ld (o := ⟨some 39, _, _, _, _, _⟩) hs rfl rfl (Cell.blk 0 rfl Q2.out) (by kernel_rfl) ?_))))
       go_meet
       exact ⟨rfl, hs⟩
      | true =>
       obtain rfl : r1 = true := by rw [← R1.out]; rfl
       go_wp2_with (first | ((with_reducible refine Se.isL (o := ⟨some 6, _, _, _, _, _⟩) ?_); (refine Se.toL rfl (Se.ld (o := ⟨some 6, _, _, _, _, _⟩) hs rfl rfl (Cell.blk 1 rfl P3.out) (by kernel_rfl) ?_))) | ((with_reducible refine Se.isL (o := ⟨some 9, _, _, _, _, _⟩) ?_); (refine Se.toL rfl (Se.ld (o := ⟨some 9, _, _, _, _, _⟩) hs rfl rfl (Cell.blk 0 rfl Q3.out) (by kernel_rfl) ?_))) | ((with_reducible refine Se.isL (o := ⟨some 14, _, _, _, _, _⟩) ?_); (refine Se.toL rfl (Se.ld (o := ⟨some 14, _, _, _, _, _⟩) hs rfl rfl (Cell.blk 1 rfl P13.out) (by kernel_rfl) ?_))) | ((with_reducible refine Se.isL (o := ⟨some 17, _, _, _, _, _⟩) ?_); (refine Se.toL rfl (Se.ld (o := ⟨some 17, _, _, _, _, _⟩) hs rfl rfl (Cell.blk 0 rfl Q13.out) (by kernel_rfl) ?_))) | ((with_reducible refine Se.isL (o := ⟨some 23, _, _, _, _, _⟩) ?_); (refine Se.toL rfl (Se.ld (o := ⟨some 23, _, _, _, _, _⟩) hs rfl rfl (Cell.blk 1 rfl P0.out) (by kernel_rfl) ?_))) | ((with_reducible refine Se.isL (o := ⟨some 25, _, _, _, _, _⟩) ?_); (refine Se.toL rfl (Se.ld (o := ⟨some 25, _, _, _, _, _⟩) hs rfl rfl (Cell.blk 0 rfl Q0.out) (by kernel_rfl) ?_))) | ((with_reducible refine Se.isL (o := ⟨some 30, _, _, _, _, _⟩) ?_); (refine Se.toL rfl (Se.ld (o := ⟨some 30, _, _, _, _, _⟩) hs rfl rfl (Cell.blk 1 rfl P1.out) (by kernel_rfl) ?_))) | ((with_reducible refine Se.isL (o := ⟨some 32, _, _, _, _, _⟩) ?_); (refine Se.toL rfl (Se.ld (o := ⟨some 32, _, _, _, _, _⟩) hs rfl rfl (Cell.blk 0 rfl Q1.out) (by kernel_rfl) ?_))) | ((with_reducible refine Se.isL (o := ⟨some 37, _, _, _, _, _⟩) ?_); (refine Se.toL rfl (Se.ld (o := ⟨some 37, _, _, _, _, _⟩) hs rfl rfl (Cell.blk 1 rfl P2.out) (by kernel_rfl) ?_))) | ((with_reducible refine Se.isL (o := ⟨some 39, _, _, _, _, _⟩) ?_); (refine Se.toL rfl (Se.ld (o := ⟨some 39, _, _, _, _, _⟩) hs rfl rfl (Cell.blk 0 rfl Q2.out) (by kernel_rfl) ?_))))
       go_meet
       exact ⟨rfl, hs⟩
 case rest =>
  clear hs c1 c2 c3 c4 SE SD TE TD n0 n1 n2 hb0 hb1 hb2
  obtain ⟨rfl, hs⟩ := hcut
  rename World => w
  cases r1 with
  | false =>
   obtain rfl : r = false := HR.out.symm
   go_wp2_with fail
   go_ret
   exact ⟨rfl, hs.drop.drop⟩
  | true =>
   cases b4 with
   | false =>
    obtain rfl : r = false := by rw [← HR.out]; simp
    go_wp2_with (first | ((with_reducible refine Se.isL (o := ⟨some 43, _, _, _, _, _⟩) ?_); (refine Se.toL rfl (Se.ld (o := ⟨some 43, _, _, _, _, _⟩) hs rfl rfl (Cell.blk 1 rfl P4.out) (by kernel_rfl) ?_))) | ((with_reducible refine Se.isL (o := ⟨some 45, _, _, _, _, _⟩) ?_); (refine Se.toL rfl (Se.ld (o := ⟨some 45, _, _, _, _, _⟩) hs rfl rfl (Cell.blk 0 rfl Q4.out) (by kernel_rfl) ?_))))
    go_ret
    exact ⟨rfl, hs.drop.drop⟩
   | true =>
    cases b5 with
    | false =>
     obtain rfl : r = false := by rw [← HR.out]; simp
     go_wp2_with (first | ((with_reducible refine Se.isL (o := ⟨some 43, _, _, _, _, _⟩) ?_); (refine Se.toL rfl (Se.ld (o := ⟨some 43, _, _, _, _, _⟩) hs rfl rfl (Cell.blk 1 rfl P4.out) (by kernel_rfl) ?_))) | ((with_reducible refine Se.isL (o := ⟨some 45, _, _, _, _, _⟩) ?_); (refine Se.toL rfl (Se.ld (o := ⟨some 45, _, _, _, _, _⟩) hs rfl rfl (Cell.blk 0 rfl Q4.out) (by kernel_rfl) ?_))) | ((with_reducible refine Se.isL (o := ⟨some 49, _, _, _, _, _⟩) ?_); (refine Se.toL rfl (Se.ld (o := ⟨some 49, _, _, _, _, _⟩) hs rfl rfl (Cell.blk 1 rfl P5.out) (by kernel_rfl) ?_))) | ((with_reducible refine Se.isL (o := ⟨some 51, _, _, _, _, _⟩) ?_); (refine Se.toL rfl (Se.ld (o := ⟨some 51, _, _, _, _, _⟩) hs rfl rfl (Cell.blk 0 rfl Q5.out) (by kernel_rfl) ?_))))
     go_ret
     exact ⟨rfl, hs.drop.drop⟩
    | true =>
     cases b6 with
     | false =>
      obtain rfl : r = false := by rw [← HR.out]; simp
      go_wp2_with (first | ((with_reducible refine Se.isL (o := ⟨some 43, _, _, _, _, _⟩) ?_); (refine Se.toL rfl (Se.ld (o := ⟨some 43, _, _, _, _, _⟩) hs rfl rfl (Cell.blk 1 rfl P4.out) (by kernel_rfl) ?_))) | ((with_reducible refine Se.isL (o := ⟨some 45, _, _, _, _, _⟩) ?_); (refine Se.toL rfl (Se.ld (o := ⟨some 45, _, _, _, _, _⟩) hs rfl rfl (Cell.blk 0 rfl Q4.out) (by kernel_rfl) ?_))) | ((with_reducible refine Se.isL (o := ⟨some 49, _, _, _, _, _⟩) ?_); (refine Se.toL rfl (Se.ld (o := ⟨some 49, _, _, _, _, _⟩) hs rfl rfl (Cell.blk 1 rfl P5.out) (by kernel_rfl) ?_))) | ((with_reducible refine Se.isL (o := ⟨some 51, _, _, _, _, _⟩) ?_); (refine Se.toL rfl (Se.ld (o := ⟨some 51, _, _, _, _, _⟩) hs rfl rfl (Cell.blk 0 rfl Q5.out) (by kernel_rfl) ?_))) | ((with_reducible refine Se.isL (o := ⟨some 56, _, _, _, _, _⟩) ?_); (refine Se.toL rfl (Se.ld (o := ⟨some 56, _, _, _, _, _⟩) hs rfl rfl (Cell.blk 1 rfl P6.out) (by kernel_rfl) ?_))) | ((with_reducible refine Se.isL (o := ⟨some 58, _, _, _, _, _⟩) ?_); (refine Se.toL rfl (Se.ld (o := ⟨some 58, _, _, _, _, _⟩) hs rfl rfl (Cell.blk 0 rfl Q6.out) (by kernel_rfl) ?_))))
      go_ret
      exact ⟨rfl, hs.drop.drop⟩
     | true =>
      cases b7 with
      | false =>
       obtain rfl : r = false := by rw [← HR.out]; simp
       go_wp2_with (first | ((with_reducible refine Se.isL (o := ⟨some 43, _, _, _, _, _⟩) ?_); (refine Se.toL rfl (Se.ld (o := ⟨some 43, _, _, _, _, _⟩) hs rfl rfl (Cell.blk 1 rfl P4.out) (by kernel_rfl) ?_))) | ((with_reducible refine Se.isL (o := ⟨some 45, _, _, _, _, _⟩) ?_); (refine Se.toL rfl (Se.ld (o := ⟨some 45, _, _, _, _, _⟩) hs rfl rfl (Cell.blk 0 rfl Q4.out) (by kernel_rfl) ?_))) | ((with_reducible refine Se.isL (o := ⟨some 49, _, _, _, _, _⟩) ?_); (refine Se.toL rfl (Se.ld (o := ⟨some 49, _, _, _, _, _⟩) hs rfl rfl (Cell.blk 1 rfl P5.out) (by kernel_rfl) ?_))) | ((with_reducible refine Se.isL (o := ⟨some 51, _, _, _, _, _⟩) ?_); (refine Se.toL rfl (Se.ld (o := ⟨some 51, _, _, _, _, _⟩) hs rfl rfl (Cell.blk 0 rfl Q5.out) (by kernel_rfl) ?_))) | ((with_reducible refine Se.isL (o := ⟨some 56, _, _, _, _, _⟩) ?_); (refine Se.toL rfl (Se.ld (o := ⟨some 56, _, _, _, _, _⟩) hs rfl rfl (Cell.blk 1 rfl P6.out) (by kernel_rfl) ?_))) | ((with_reducible refine Se.isL (o := ⟨some 58, _, _, _, _, _⟩) ?_); (refine Se.toL rfl (Se.ld (o := ⟨some 58, _, _, _, _, _⟩) hs rfl rfl (Cell.blk 0 rfl Q6.out) (by kernel_rfl) ?_))) | ((with_reducible refine Se.isL (o := ⟨some 63, _, _, _, _, _⟩) ?_); (refine Se.toL rfl (Se.ld (o := ⟨some 63, _, _, _, _, _⟩) hs rfl rfl (Cell.blk 1 rfl P7.out) (by kernel_rfl) ?_))) | ((with_reducible refine Se.isL (o := ⟨some 65, _, _, _, _, _⟩) ?_); (refine Se.toL rfl (Se.ld (o := ⟨some 65, _, _, _, _, _⟩) hs rfl rfl (Cell.blk 0 rfl Q7.out) (by kernel_rfl) ?_))))
       go_ret
       exact ⟨rfl, hs.drop.drop⟩
      | true =>
       cases b8 with
       | false =>
        obtain rfl : r = false := by rw [← HR.out]; simp
        go_wp2_with (first | ((with_reducible refine Se.isL (o := ⟨some 43, _, _, _, _, _⟩) ?_); (refine Se.toL rfl (Se.ld (o := ⟨some 43, _, _, _, _, _⟩) hs rfl rfl (Cell.blk 1 rfl P4.out) (by kernel_rfl) ?_))) | ((with_reducible refine Se.isL (o := ⟨some 45, _, _, _, _, _⟩) ?_); (refine Se.toL rfl (Se.ld (o := ⟨some 45, _, _, _, _, _⟩) hs rfl rfl (Cell.blk 0 rfl Q4.out) (by kernel_rfl) ?_))) | ((with_reducible refine Se.isL (o := ⟨some 49, _, _, _, _, _⟩) ?_); (refine Se.toL rfl (Se.ld (o := ⟨some 49, _, _, _, _, _⟩) hs rfl rfl (Cell.blk 1 rfl P5.out) (by kernel_rfl) ?_))) | ((with_reducible refine Se.isL (o := ⟨some 51, _, _, _, _, _⟩) ?_); (refine Se.toL rfl (Se.ld (o := ⟨some 51, _, _, _, _, _⟩) hs rfl rfl (Cell.blk 0 rfl Q5.out) (by kernel_rfl) ?_))) | ((with_reducible refine Se.isL (o := ⟨some 56, _, _, _, _, _⟩) ?_); (refine Se.toL rfl (Se.ld (o := ⟨some 56, _, _, _, _, _⟩) hs rfl rfl (Cell.blk 1 rfl P6.out) (by kernel_rfl) ?_))) | ((with_reducible refine Se.isL (o := ⟨some 58, _, _, _, _, _⟩) ?_); (refine Se.toL rfl (Se.ld (o := ⟨some 58, _, _, _, _, _⟩) hs rfl rfl (Cell.blk 0 rfl Q6.out) (by kernel_rfl) ?_))) | ((with_reducible refine Se.isL (o := ⟨some 63, _, _, _, _, _⟩) ?_); (refine Se.toL rfl (Se.ld (o := ⟨some 63, _, _, _, _, _⟩) hs rfl rfl (Cell.blk 1 rfl P7.out) (by kernel_rfl) ?_))) | ((with_reducible refine Se.isL (o := ⟨some 65, _, _, _, _, _⟩) ?_); (refine Se.toL rfl (Se.ld (o := ⟨some 65, _, _, _, _, _⟩) hs rfl rfl (Cell.blk 0 rfl Q7.out) (by kernel_rfl) ?_))) | ((with_reducible refine Se.isL (o := ⟨some 70, _, _, _, _, _⟩) ?_); (refine Se.toL rfl (Se.ld (o := ⟨some 70, _, _, _, _, _⟩) hs rfl rfl (Cell.blk 1 rfl P8.out) (by kernel_rfl) ?_))) | ((with_reducible refine Se.isL (o := ⟨some 72, _, _, _, _, _⟩) ?_); (refine Se.toL rfl (Se.ld (o := ⟨some 72, _, _, _, _, _⟩) hs rfl rfl (Cell.blk 0 rfl Q8.out) (by kernel_rfl) ?_))))
        go_ret
        exact ⟨rfl, hs.drop.drop⟩
       | true =>
        cases b9 with
        | false =>
         obtain rfl : r = false := by rw [← HR.out]; simp
         go_wp2_with (first | ((with_reducible refine Se.isL (o := ⟨some 43, _, _, _, _, _⟩) ?_); (refine Se.toL rfl (Se.ld (o := ⟨some 43, _, _, _, _, _⟩) hs rfl rfl (Cell.blk 1 rfl P4.out) (by kernel_rfl) ?_))) | ((with_reducible refine Se.isL (o := ⟨some 45, _, _, _, _, _⟩) ?_); (refine Se.toL rfl (Se.ld (o := ⟨some 45, _, _, _, _, _⟩) hs rfl rfl (Cell.blk 0 rfl Q4.out) (by kernel_rfl) ?_))) | ((with_reducible refine Se.isL (o := ⟨some 49, _, _, _, _, _⟩) ?_); (refine Se.toL rfl (Se.ld (o := ⟨some 49, _, _, _, _, _⟩) hs rfl rfl (Cell.blk 1 rfl P5.out) (by kernel_rfl) ?_))) | ((with_reducible refine Se.isL (o := ⟨some 51, _, _, _, _, _⟩) ?_); (refine Se.toL rfl (Se.ld (o := ⟨some 51, _, _, _, _, _⟩) hs rfl rfl (Cell.blk 0 rfl Q5.out) (by kernel_rfl) ?_))) | ((with_reducible refine Se.isL (o := ⟨some 56, _, _, _, _, _⟩) ?_); (refine Se.toL rfl (Se.ld (o := ⟨some 56, _, _, _, _, _⟩) hs rfl rfl (Cell.blk 1 rfl P6.out) (by kernel_rfl) ?_))) | ((with_reducible refine Se.isL (o := ⟨some 58, _, _, _, _, _⟩) ?_); (refine Se.toL rfl (Se.ld (o := ⟨some 58, _, _, _, _, _⟩) hs rfl rfl (Cell.blk 0 rfl Q6.out) (by kernel_rfl) ?_))) | ((with_reducible refine Se.isL (o := ⟨some 63, _, _, _, _, _⟩) ?_); (refine Se.toL rfl (Se.ld (o := ⟨some 63, _, _, _, _, _⟩) hs rfl rfl (Cell.blk 1 rfl P7.out) (by kernel_rfl) ?_))) | ((with_reducible refine Se.isL (o := ⟨some 65, _, _, _, _, _⟩) ?_); (refine Se.toL rfl (Se.ld (o := ⟨some 65, _, _, _, _, _⟩) hs rfl rfl (Cell.blk 0 rfl Q7.out) (by kernel_rfl) ?_))) | ((with_reducible refine Se.isL (o := ⟨some 70, _, _, _, _, _⟩) ?_); (refine Se.toL rfl (Se.ld (o := ⟨some 70, _, _, _, _, _⟩) hs rfl rfl (Cell.blk 1 rfl P8.out) (by kernel_rfl) ?_))) | ((with_reducible refine Se.isL (o := ⟨some 72, _, _, _, _, _⟩) ?_); (refine Se.toL rfl (Se.ld (o := ⟨some 72, _, _, _, _, _⟩) hs rfl rfl (Cell.blk 0 rfl Q8.out) (by kernel_rfl) ?_))) | ((with_reducible refine Se.isL (o := ⟨some 77, _, _, _, _, _⟩) ?_); (refine Se.toL rfl (Se.ld (o := ⟨some 77, _, _, _, _, _⟩) hs rfl rfl (Cell.blk 1 rfl P9.out) (by kernel_rfl) ?_))) | ((with_reducible refine Se.isL (o := ⟨some 79, _, _, _, _, _⟩) ?_); (refine Se.toL rfl (Se.ld (o := ⟨some 79, _, _, _, _, _⟩) hs rfl rfl (Cell.blk 0 rfl Q9.out) (by kernel_rfl) ?_))))
         go_ret
         exact ⟨rfl, hs.drop.drop⟩
        | true =>
         cases b10 with
         | false =>
          obtain rfl : r = false := by rw [← HR.out]; simp
          go_wp2_with (first | ((with_reducible refine Se.isL (o := ⟨some 43, _, _, _, _, _⟩) ?_); (refine Se.toL rfl (Se.ld (o := ⟨some 43, _, _, _, _, _⟩) hs rfl rfl (Cell.blk 1 rfl P4.out) (by kernel_rfl) ?_))) | ((with_reducible refine Se.isL (o := ⟨some 45, _, _, _, _, _⟩) ?_); (refine Se.toL rfl (Se.ld (o := ⟨some 45, _, _, _, _, _⟩) hs rfl rfl (Cell.blk 0 rfl Q4.out) (by kernel_rfl) ?_))) | ((with_reducible refine Se.isL (o := ⟨some 49, _, _, _, _, _⟩) ?_); (refine Se.toL rfl (Se.ld (o := ⟨some 49, _, _, _, _, _⟩) hs rfl rfl (Cell.blk 1 rfl P5.out) (by kernel_rfl) ?_))) | ((with_reducible refine Se.isL (o := ⟨some 51, _, _, _, _, _⟩) ?_); (refine Se.toL rfl (Se.ld (o := ⟨some 51, _, _, _, _, _⟩) hs rfl rfl (Cell.blk 0 rfl Q5.out) (by kernel_rfl) ?_))) | ((with_reducible refine Se.isL (o := ⟨some 56, _, _, _, _, _⟩) ?_); (refine Se.toL rfl (Se.ld (o := ⟨some 56, _, _, _, _, _⟩) hs rfl rfl (Cell.blk 1 rfl P6.out) (by kernel_rfl) ?_))) | ((with_reducible refine Se.isL (o := ⟨some 58, _, _, _, _, _⟩) ?_); (refine Se.toL rfl (Se.ld (o := ⟨some 58, _, _, _, _, _⟩) hs rfl rfl (Cell.blk 0 rfl Q6.out) (by kernel_rfl) ?_))) | ((with_reducible refine Se.isL (o := ⟨some 63, _, _, _, _, _⟩) ?_); (refine Se.toL rfl (Se.ld (o := ⟨some 63, _, _, _, _, _⟩) hs rfl rfl (Cell.blk 1 rfl P7.out) (by kernel_rfl) ?_))) | ((with_reducible refine Se.isL (o := ⟨some 65, _, _, _, _, _⟩) ?_); (refine Se.toL rfl (Se.ld (o := ⟨some 65, _, _, _, _, _⟩) hs rfl rfl (Cell.blk 0 rfl Q7.out) (by kernel_rfl) ?_))) | ((with_reducible refine Se.isL (o := ⟨some 70, _, _, _, _, _⟩) ?_); (refine Se.toL rfl (Se.ld (o := ⟨some 70, _, _, _, _, _⟩) hs rfl rfl (Cell.blk 1 rfl P8.out) (by kernel_rfl) ?_))) | ((with_reducible refine Se.isL (o := ⟨some 72, _, _, _, _, _⟩) ?_); (refine Se.toL rfl (Se.ld (o := ⟨some 72, _, _, _, _, _⟩) hs rfl rfl (Cell.blk 0 rfl Q8.out) (by kernel_rfl) ?_))) | ((with_reducible refine Se.isL (o := ⟨some 77, _, _, _, _, _⟩) ?_); (refine Se.toL rfl (Se.ld (o := ⟨some 77, _, _, _, _, _⟩) hs rfl rfl (Cell.blk 1 rfl P9.out) (by kernel_rfl) ?_))) | ((with_reducible refine Se.isL (o := ⟨some 79, _, _, _, _, _⟩) ?_); (refine Se.toL rfl (Se.ld (o := ⟨some 79, _, _, _, _, _⟩) hs rfl rfl (Cell.blk 0 rfl Q9.out) (by kernel_rfl) ?_))) | ((with_reducible refine Se.isL (o := ⟨some 84, _, _, _, _, _⟩) ?_); (refine Se.toL rfl (Se.ld (o := ⟨some 84, _, _, _, _, _⟩) hs rfl rfl (Cell.blk 1 rfl P10.out) (by kernel_rfl) ?_))) | ((with_reducible refine Se.isL (o := ⟨some 86, _, _, _, _, _⟩) ?_); (refine Se.toL rfl (Se.ld (o := ⟨some 86, _, _, _, _, _⟩) hs rfl rfl (Cell.blk 0 rfl Q10.out) (by kernel_rfl) ?_))))
          go_ret
          exact ⟨rfl, hs.drop.drop⟩
         | true =>
          cases b11 with
          | false =>
           obtain rfl : r = false := by rw [← HR.out]; simp
           go_wp2_with (first | ((with_reducible refine Se.isL (o := ⟨some 43, _, _, _, _, _⟩) ?_); (refine Se.toL rfl (Se.ld (o := ⟨some 43, _, _, _, _, _⟩) hs rfl rfl (Cell.blk 1 rfl P4.out) (by kernel_rfl) ?_))) | ((with_reducible refine Se.isL (o := ⟨some 45, _, _, _, _, _⟩) ?_); (refine Se.toL rfl (Se.ld (o := ⟨some 45, _, _, _, _, _⟩) hs rfl rfl (Cell.blk 0 rfl Q4.out) (by kernel_rfl) ?_))) | ((with_reducible refine Se.isL (o := ⟨some 49, _, _, _, _, _⟩) ?_); (refine Se.toL rfl (Se.ld (o := ⟨some 49, _, _, _, _, _⟩) hs rfl rfl (Cell.blk 1 rfl P5.out) (by kernel_rfl) ?_))) | ((with_reducible refine Se.isL (o := ⟨some 51, _, _, _, _, _⟩) ?_); (refine Se.toL rfl (Se.ld (o := ⟨some 51, _, _, _, _, _⟩) hs rfl rfl (Cell.blk 0 rfl Q5.out) (by kernel_rfl) ?_))) | ((with_reducible refine Se.isL (o := ⟨some 56, _, _, _, _, _⟩) ?_); (refine Se.toL rfl (Se.ld (o := ⟨some 56, _, _, _, _, _⟩) hs rfl rfl (Cell.blk 1 rfl P6.out) (by kernel_rfl) ?_))) | ((with_reducible refine Se.isL (o := ⟨some 58, _, _, _, _, _⟩) ?_); (refine Se.toL rfl (Se.ld (o := ⟨some 58, _, _, _, _, _⟩) hs rfl rfl (Cell.blk 0 rfl Q6.out) (by kernel_rfl) ?_))) | ((with_reducible refine Se.isL (o := ⟨some 63, _, _, _, _, _⟩) ?_); (refine Se.toL rfl (Se.ld (o := ⟨some 63, _, _, _, _, _⟩) hs rfl rfl (Cell.blk 1 rfl P7.out) (by kernel_rfl) ?_))) | ((with_reducible refine Se.isL (o := ⟨some 65, _, _, _, _, _⟩) ?_); (refine Se.toL rfl (Se.ld (o := ⟨some 65, _, _, _, _, _⟩) hs rfl rfl (Cell.blk 0 rfl Q7.out) (by kernel_rfl) ?_))) | ((with_reducible refine Se.isL (o := ⟨some 70, _, _, _, _, _⟩) ?_); (refine Se.toL rfl (Se.ld (o := ⟨some 70, _, _, _, _, _⟩) hs rfl rfl (Cell.blk 1 rfl P8.out) (by kernel_rfl) ?_))) | ((with_reducible refine Se.isL (o := ⟨some 72, _, _, _, _, _⟩) ?_); (refine Se.toL rfl (Se.ld (o := ⟨some 72, _, _, _, _, _⟩) hs rfl rfl (Cell.blk 0 rfl Q8.out) (by kernel_rfl) ?_))) | ((with_reducible refine Se.isL (o := ⟨some 77, _, _, _, _, _⟩) ?_); (refine Se.toL rfl (Se.ld (o := ⟨some 77, _, _, _, _, _⟩) hs rfl rfl (Cell.blk 1 rfl P9.out) (by kernel_rfl) ?_))) | ((with_reducible refine Se.isL (o := ⟨some 79, _, _, _, _, _⟩) ?_); (refine Se.toL rfl (Se.ld (o := ⟨some 79, _, _, _, _, _⟩) hs rfl rfl (Cell.blk 0 rfl Q9.out) (by kernel_rfl) ?_))) | ((with_reducible refine Se.isL (o := ⟨some 84, _, _, _, _, _⟩) ?_); (refine Se.toL rfl (Se.ld (o := ⟨some 84, _, _, _, _, _⟩) hs rfl rfl (Cell.blk 1 rfl P10.out) (by kernel_rfl) ?_))) | ((with_reducible refine Se.isL (o := ⟨some 86, _, _, _, _, _⟩) ?_); (refine Se.toL rfl (Se.ld (o := ⟨some 86, _, _, _, _, _⟩) hs rfl rfl (Cell.blk 0 rfl Q10.out) (by kernel_rfl) ?_))) | ((with_reducible refine Se.isL (o := ⟨some 91, _, _, _, _, _⟩) ?_); (refine Se.toL rfl (Se.ld (o := ⟨some 91, _, _, _, _, _⟩) hs rfl rfl (Cell.blk 1 rfl P11.out) (by kernel_rfl) ?_))) | ((with_reducible refine Se.isL (o := ⟨some 93, _, _, _, _, _⟩) ?_); (refine Se.toL rfl (Se.ld (o := ⟨some 93, _, _, _, _, _⟩) hs rfl rfl (Cell.blk 0 rfl Q11.out) (by kernel_rfl) ?_))))
           go_ret
           exact ⟨rfl, hs.drop.drop⟩
          | true =>
           cases b12 with
           | false =>
            obtain rfl : r = false := by rw [← HR.out]; simp
            go_wp2_with (first | ((with_reducible refine Se.isL (o := ⟨some 43, _, _, _, _, _⟩) ?_); (refine Se.toL rfl (Se.ld (o := ⟨some 43, _, _, _, _, _⟩) hs rfl rfl (Cell.blk 1 rfl P4.out) (by kernel_rfl) ?_))) | ((with_reducible refine Se.isL (o := ⟨some 45, _, _, _, _, _⟩) ?_); (refine Se.toL rfl (Se.ld (o := ⟨some 45, _, _, _, _, _⟩) hs rfl rfl (Cell.blk 0 rfl Q4.out) (by kernel_rfl) ?_))) | ((with_reducible refine Se.isL (o := ⟨some 49, _, _, _, _, _⟩) ?_); (refine Se.toL rfl (Se.ld (o := ⟨some 49, _, _, _, _, _⟩) hs rfl rfl (Cell.blk 1 rfl P5.out) (by kernel_rfl) ?_))) | ((with_reducible refine Se.isL (o := ⟨some 51, _, _, _, _, _⟩) ?_); (refine Se.toL rfl (Se.ld (o := ⟨some 51, _, _, _, _, _⟩) hs rfl rfl (Cell.blk 0 rfl Q5.out) (by kernel_rfl) ?_))) | ((with_reducible refine Se.isL (o := ⟨some 56, _, _, _, _, _⟩) ?_); (refine Se.toL rfl (Se.ld (o := ⟨some 56, _, _, _, _, _⟩) hs rfl rfl (Cell.blk 1 rfl P6.out) (by kernel_rfl) ?_))) | ((with_reducible refine Se.isL (o := ⟨some 58, _, _, _, _, _⟩) ?_); (refine Se.toL rfl (Se.ld (o := ⟨some 58, _, _, _, _, _⟩) hs rfl rfl (Cell.blk 0 rfl Q6.out) (by kernel_rfl) ?_))) | ((with_reducible refine Se.isL (o := ⟨some 63, _, _, _, _, _⟩) ?_); (refine Se.toL rfl (Se.ld (o := ⟨some 63, _, _, _, _, _⟩) hs rfl rfl (Cell.blk 1 rfl P7.out) (by kernel_rfl) ?_))) | ((with_reducible refine Se.isL (o := ⟨some 65, _, _, _, _, _⟩) ?_); (refine Se.toL rfl (Se.ld (o := ⟨some 65, _, _, _, _, _⟩) hs rfl rfl (Cell.blk 0 rfl Q7.out) (by kernel_rfl) ?_))) | ((with_reducible refine Se.isL (o := ⟨some 70, _, _, _, _, _⟩) ?_); (refine Se.toL rfl (Se.ld (o := ⟨some 70, _, _, _, _, _⟩) hs rfl rfl (Cell.blk 1 rfl P8.out) (by kernel_rfl) ?_))) | ((with_reducible refine Se.isL (o := ⟨some 72, _, _, _, _, _⟩) ?_); (refine Se.toL rfl (Se.ld (o := ⟨some 72, _, _, _, _, _⟩) hs rfl rfl (Cell.blk 0 rfl Q8.out) (by kernel_rfl) ?_))) | ((with_reducible refine Se.isL (o := ⟨some 77, _, _, _, _, _⟩) ?_); (refine Se.toL rfl (Se.ld (o := ⟨some 77, _, _, _, _, _⟩) hs rfl rfl (Cell.blk 1 rfl P9.out) (by kernel_rfl) ?_))) | ((with_reducible refine Se.isL (o := ⟨some 79, _, _, _, _, _⟩) ?_); (refine Se.toL rfl (Se.ld (o := ⟨some 79, _, _, _, _, _⟩) hs rfl rfl (Cell.blk 0 rfl Q9.out) (by kernel_rfl) ?_))) | ((with_reducible refine Se.isL (o := ⟨some 84, _, _, _, _, _⟩) ?_); (refine Se.toL rfl (Se.ld (o := ⟨some 84, _, _, _, _, _⟩) hs rfl rfl (Cell.blk 1 rfl P10.out) (by kernel_rfl) ?_))) | ((with_reducible refine Se.isL (o := ⟨some 86, _, _, _, _, _⟩) ?_); (refine Se.toL rfl (Se.ld (o := ⟨some 86, _, _, _, _, _⟩) hs rfl rfl (Cell.blk 0 rfl Q10.out) (by kernel_rfl) ?_))) | ((with_reducible refine Se.isL (o := ⟨some 91, _, _, _, _, _⟩) ?_); (refine Se.toL rfl (Se.ld (o := ⟨some 91, _, _, _, _, _⟩) hs rfl rfl (Cell.blk 1 rfl P11.out) (by kernel_rfl) ?_))) | ((with_reducible refine Se.isL (o := ⟨some 93, _, _, _, _, _⟩) ?_); (refine Se.toL rfl (Se.ld (o := ⟨some 93, _, _, _, _, _⟩) hs rfl rfl (Cell.blk 0 rfl Q11.out) (by kernel_rfl) ?_))) | ((with_reducible refine Se.isL (o := ⟨some 98, _, _, _, _, _⟩) ?_); (refine Se.toL rfl (Se.ld (o := ⟨some 98, _, _, _, _, _⟩) hs rfl rfl (Cell.blk 1 rfl P12.out) (by kernel_rfl) ?_))) | ((with_reducible refine Se.isL (o := ⟨some 100, _, _, _, _, _⟩) ?_); (refine Se.toL rfl (Se.ld (o := ⟨some 100, _, _, _, _, _⟩) hs rfl rfl (Cell.blk 0 rfl Q12.out) (by kernel_rfl) ?_))))
            go_ret
            exact ⟨rfl, hs.drop.drop⟩
           | true =>
            obtain rfl : r = true := by rw [← HR.out]; simp
            go_wp2_with (first | ((with_reducible refine Se.isL (o := ⟨some 43, _, _, _, _, _⟩) ?_); (refine Se.toL rfl (Se.ld (o := ⟨some 43, _, _, _, _, _⟩) hs rfl rfl (Cell.blk 1 rfl P4.out) (by kernel_rfl) ?_))) | ((with_reducible refine Se.isL (o := ⟨some 45, _, _, _, _, _⟩) ?_); (refine Se.toL rfl (Se.ld (o := ⟨some 45, _, _, _, _, _⟩) hs rfl rfl (Cell.blk 0 rfl Q4.out) (by kernel_rfl) ?_))) | ((with_reducible refine Se.isL (o := ⟨some 49, _, _, _, _, _⟩) ?_); (refine Se.toL rfl (Se.ld (o := ⟨some 49, _, _, _, _, _⟩) hs rfl rfl (Cell.blk 1 rfl P5.out) (by kernel_rfl) ?_))) | ((with_reducible refine Se.isL (o := ⟨some 51, _, _, _, _, _⟩) ?_); (refine Se.toL rfl (Se.ld (o := ⟨some 51, _, _, _, _, _⟩) hs rfl rfl (Cell.blk 0 rfl Q5.out) (by kernel_rfl) ?_))) | ((with_reducible refine Se.isL (o := ⟨some 56, _, _, _, _, _⟩) ?_); (refine Se.toL rfl (Se.ld (o := ⟨some 56, _, _, _, _, _⟩) hs rfl rfl (Cell.blk 1 rfl P6.out) (by kernel_rfl) ?_))) | ((with_reducible refine Se.isL (o := ⟨some 58, _, _, _, _, _⟩) ?_); (refine Se.toL rfl (Se.ld (o := ⟨some 58, _, _, _, _, _⟩) hs rfl rfl (Cell.blk 0 rfl Q6.out) (by kernel_rfl) ?_))) | ((with_reducible refine Se.isL (o := ⟨some 63, _, _, _, _, _⟩) ?_); (refine Se.toL rfl (Se.ld (o := ⟨some 63, _, _, _, _, _⟩) hs rfl rfl (Cell.blk 1 rfl P7.out) (by kernel_rfl) ?_))) | ((with_reducible refine Se.isL (o := ⟨some 65, _, _, _, _, _⟩) ?_); (refine Se.toL rfl (Se.ld (o := ⟨some 65, _, _, _, _, _⟩) hs rfl rfl (Cell.blk 0 rfl Q7.out) (by kernel_rfl) ?_))) | ((with_reducible refine Se.isL (o := ⟨some 70, _, _, _, _, _⟩) ?_); (refine Se.toL rfl (Se.ld (o := ⟨some 70, _, _, _, _, _⟩) hs rfl rfl (Cell.blk 1 rfl P8.out) (by kernel_rfl) ?_))) | ((with_reducible refine Se.isL (o := ⟨some 72, _, _, _, _, _⟩) ?_); (refine Se.toL rfl (Se.ld (o := ⟨some 72, _, _, _, _, _⟩) hs rfl rfl (Cell.blk 0 rfl Q8.out) (by kernel_rfl) ?_))) | ((with_reducible refine Se.isL (o := ⟨some 77, _, _, _, _, _⟩) ?_); (refine Se.toL rfl (Se.ld (o := ⟨some 77, _, _, _, _, _⟩) hs rfl rfl (Cell.blk 1 rfl P9.out) (by kernel_rfl) ?_))) | ((with_reducible refine Se.isL (o := ⟨some 79, _, _, _, _, _⟩) ?_); (refine Se.toL rfl (Se.ld (o := ⟨some 79, _, _, _, _, _⟩) hs rfl rfl (Cell.blk 0 rfl Q9.out) (by kernel_rfl) ?_))) | ((with_reducible refine Se.isL (o := ⟨some 84, _, _, _, _, _⟩) ?_); (refine Se.toL rfl (Se.ld (o := ⟨some 84, _, _, _, _, _⟩) hs rfl rfl (Cell.blk 1 rfl P10.out) (by kernel_rfl) ?_))) | ((with_reducible refine Se.isL (o := ⟨some 86, _, _, _, _, _⟩) ?_); (refine Se.toL rfl (Se.ld (o := ⟨some 86, _, _, _, _, _⟩) hs rfl rfl (Cell.blk 0 rfl Q10.out) (by kernel_rfl) ?_))) | ((with_reducible refine Se.isL (o := ⟨some 91, _, _, _, _, _⟩) ?_); (refine Se.toL rfl (Se.ld (o := ⟨some 91, _, _, _, _, _⟩) hs rfl rfl (Cell.blk 1 rfl P11.out) (by kernel_rfl) ?_))) | ((with_reducible refine Se.isL (o := ⟨some 93, _, _, _, _, _⟩) ?_); (refine Se.toL rfl (Se.ld (o := ⟨some 93, _, _, _, _, _⟩) hs rfl rfl (Cell.blk 0 rfl Q11.out) (by kernel_rfl) ?_))) | ((with_reducible refine Se.isL (o := ⟨some 98, _, _, _, _, _⟩) ?_); (refine Se.toL rfl (Se.ld (o := ⟨some 98, _, _, _, _, _⟩) hs rfl rfl (Cell.blk 1 rfl P12.out) (by kernel_rfl) ?_))) | ((with_reducible refine Se.isL (o := ⟨some 100, _, _, _, _, _⟩) ?_); (refine Se.toL rfl (Se.ld (o := ⟨some 100, _, _, _, _, _⟩) hs rfl rfl (Cell.blk 0 rfl Q12.out) (by kernel_rfl) ?_))))
            go_ret
            exact ⟨rfl, hs.drop.drop⟩
end Pd
end Go.Proofs.Ytdngfcmakjlamaa


/- The walk of the reference's Sum. -/
import Derived.Test.YtakdoijemopejaaGreatShaSha
set_option maxRecDepth 100000
set_option linter.unusedSimpArgs false
set_option linter.unusedVariables false
namespace Go.Proofs.YtakdoijemopejaaGreat
open Go.RowKit
namespace Sha
open Bv (n8 n16 n32 n64)
attribute [local irreducible] K64 H8 stepL chN shaL
structure RS (n k : Nat) (w : World) (S : List Value) (M : List (BitVec 8)) (r : Option Nat) (A : Option Addr) (c : Nat) (wr : World) : Prop where
 z : Li.Blk wr n (List.replicate 32 (v8 0#8)) 34
 K : Li.Blk wr k (K64.map v32) 125
 s : Li.Blk wr (k + 1) S 126
 o : Li.Os wr 5 r A c (M.map v8)
 b : Below n w wr
 nk : n < k
 r0 : ∀ g, r = some g → n ≤ g
theorem RS.ne {n k : Nat} {w : World} {S : List Value} {M : List (BitVec 8)} {r : Option Nat} {A : Option Addr} {c : Nat} {wr : World} (h : RS n k w S M r A c wr) : r ≠ some n ∧ r ≠ some k ∧ r ≠ some (k + 1) :=
 ⟨h.o.ne h.z (by decide), h.o.ne h.K (by decide), h.o.ne h.s (by decide)⟩
theorem RS.app {n k : Nat} {w : World} {S : List Value} {M p : List (BitVec 8)} {r r' : Option Nat} {A A' : Option Addr} {c c' : Nat} {wr wx : World} (h : RS n k w S M r A c wr) (ho : Li.Os wx 5 r' A' c' (M.map v8 ++ p.map v8)) (hg : wr.grownBy wx r) (hr : r' = r ∨ r' = some wr.heap.size) : RS n k w S (M ++ p) r' A' c' wx := by
 obtain ⟨h1, h2, h3⟩ := h.ne
 have hz := h.z.lt
 refine ⟨h.z.of_block (hg.block n h.z.lt h1.symm), h.K.of_block (hg.block k h.K.lt h2.symm), h.s.of_block (hg.block (k + 1) h.s.lt h3.symm), by rw [List.map_append]; exact ho, h.b.trans (Li.grown_below hg (by omega) h.r0), h.nk, ?_⟩
 intro g hgr
 rcases hr with rfl | rfl
 ·exact h.r0 g hgr
 ·injection hgr with e; omega
theorem RS.ext {n k : Nat} {w : World} {S : List Value} {M : List (BitVec 8)} {r : Option Nat} {A : Option Addr} {c : Nat} {wr wx : World} (h : RS n k w S M r A c wr) (e : Below wr.heap.size wr wx) : RS n k w S M r A c wx :=
 ⟨h.z.grow e, h.K.grow e, h.s.grow e, h.o.grow e, h.b.trans (e.mono (by have := h.z.lt; omega)), h.nk, h.r0⟩
set_option maxHeartbeats 4000000 in
theorem rsum_any (M : List (BitVec 8)) (B : Option Addr) (m cap : Nat) (hm : m = M.length) (hM : M.length ≤ 549755813888) (w : World) (hB : Li.Rd w B (M.map v8)) :
  Calls Tryz.prog 52 #[.slice B m cap] w fun e w' => e = .returned (.agg ((shaL M).map v8).toArray) ∧ Below w.heap.size w w' := by
 obtain ⟨n, hn⟩ : ∃ n, n = w.heap.size := ⟨_, rfl⟩
 obtain ⟨K, hK⟩ : ∃ K, K = K64.map v32 := ⟨_, rfl⟩
 obtain ⟨H, hH⟩ : ∃ H, H = H8.map v32 := ⟨_, rfl⟩
 have C := Lib.hid (fun wx => rconstants_any wx)
 rw [K_same, H_same, ← hK, ← hH] at C
 have lK := Lib.hid (show K.length = 64 by rw [hK, List.length_map, K64_length])
 have lH := Lib.hid (show H.length = 8 by rw [hH, List.length_map, H8_length])
 have oK := Lib.hid (show ∀ v ∈ K, v.oneCell' = true by rw [hK]; exact map32_one K64)
 have oH := Lib.hid (show ∀ v ∈ H, v.oneCell' = true by rw [hH]; exact map32_one H8)
 have HM := Lib.hid hm
 have HL := Lib.hid hM
 have HB := Lib.hid hB
 have HK := Lib.hid hK
 have HH := Lib.hid hH
 have hnx := Lib.hid hn
 clear hm hM hB hK hH hn
 go_enter Tryz.func52, Tryz.ntmps52
 go_wp2_with fail
 refine Calls.mono (C.out _) ?_
 rintro e w1 ⟨rfl, hb1⟩
 obtain ⟨k, hk⟩ : ∃ k, k = w1.heap.size := ⟨_, rfl⟩
 have z1 : Li.Blk w1 n (List.replicate 32 (v8 0#8)) 34 := (Li.Blk.new' hnx.out).grow hb1
 have hz1 := z1.lt
 obtain ⟨w2, hw2⟩ : ∃ w2, w2 = (((w1.alloc (.cells (List.replicate 64 (v32 0#32)).toArray 125)).alloc (.cells (List.replicate 8 (v32 0#32)).toArray 126)).setCells k 0 K).setCells (k + 1) 0 H := ⟨_, rfl⟩
 have R0 : RS n k w H [] none none 0 w2 := by
  subst hw2
  refine ⟨((z1.alloc _).alloc _ |>.setCellsOther (by omega) _ _).setCellsOther (by omega) _ _, ?_, ?_, Li.Os.nil _ _ _, ?_, by omega, fun g hg => by cases hg⟩
  ·rw [← HK.out]
   exact ((Li.Blk.alloc (Li.Blk.new' hk) _).setAll (by rw [lK.out]; rfl)).setCellsOther (by omega) _ _
  ·exact ((Li.Blk.new' (by rw [hk]; simp only [World.size_alloc])).setCellsOther (by omega) _ _).setAll (by rw [lH.out]; rfl)
  ·have b1 : Below n w w1 := ((Below.refl _ _).alloc (by rw [hnx.out]; exact Nat.le_refl _) _).trans (hb1.mono (by rw [hnx.out]; simp only [World.size_alloc]; omega))
   exact Li.below_setCells _ _ _ _ (Li.below_setCells _ _ _ _ ((b1.alloc (by omega) _).alloc (by simp only [World.size_alloc]; omega) _) (by omega)) (by omega)
 have B2 : Li.Rd w2 B (M.map v8) := HB.out.grow (by rw [← hnx.out]; exact R0.b)
 have P0 := Lib.hid R0
 have PB := Lib.hid B2
 have W2 := Lib.hid hw2
 have HKK := Lib.hid hk
 have hmm := Lib.hid (show m = (M.map v8).length by rw [List.length_map]; exact HM.out)
 have hml := Lib.hid (show 0 + m ≤ 70368744177664 by have := HM.out; have := HL.out; omega)
 have hml2 := Lib.hid (show m + 1 ≤ 70368744177664 by have := HM.out; have := HL.out; omega)
 clear R0 B2 hw2 z1 hz1 hb1 C HB hk
 go_wp2_with (first
  | (refine Li.wpList_store_blk rfl 125 _ _ rfl k (by rw [HKK.out]; rfl) (by rfl) (l := List.replicate 64 (v32 0#32)) (t := 125) (Li.Blk.alloc (Li.Blk.new' HKK.out) _) (by rw [lK.out]; rfl) (by rw [lK.out]; kernel_rfl) oK.out ?_)
  | (refine Li.wpList_store_blk rfl 126 _ _ rfl (k + 1) (by rw [HKK.out]; rfl) (by rfl) (l := List.replicate 8 (v32 0#32)) (t := 126) ((Li.Blk.new' (by rw [HKK.out]; simp only [World.size_alloc])).setCellsOther (by omega) _ _) (by rw [lH.out]; rfl) (by rw [lH.out]; kernel_rfl) oH.out ?_; show wpList _ _ _ _ _ ((((w1.alloc (.cells (List.replicate 64 (v32 0#32)).toArray 125)).alloc (.cells (List.replicate 8 (v32 0#32)).toArray 126)).setCells k 0 K).setCells (k + 1) 0 H); rw [← W2.out, ← HKK.out, ← hnx.out])
  | (refine Li.wpList_append_os (n := 0) (m := m) (z := .int .u8 0) (xs := ([] : List (BitVec 8)).map v8) rfl (.const (.slice none 0 0)) (.tmp 15) rfl Tryz.underlying22 info5 rfl (by rfl) (by rfl) P0.out.o PB.out (Li.v8_one M) rfl hmm.out hml.out ?_; intro A3 c3 r3 w3 h1 h2 h3; have P3 := Lib.hid (P0.out.app h1 h2 h3); clear h1 h2 h3)
  | (refine Li.wpList_append_os (n := m) (m := 1) (z := .int .u8 0) (ys := [128#8].map v8) rfl (.tmp 16) (.tmp 17) rfl Tryz.underlying22 info5 rfl (by rfl) (by rfl) (P3.out.ext (Hv.Ext.alloc _ _)).o (Li.Rd.of_blk (Li.Blk.new w3 ([128#8].map v8) 5)) (Li.v8_one [128#8]) hmm.out rfl hml2.out ?_; intro A4 c4 r4 w4 h1 h2 h3; have P4 := Lib.hid ((P3.out.ext (Hv.Ext.alloc w3 (.cells ([128#8].map v8).toArray 5))).app h1 h2 h3); clear h1 h2 h3))
 obtain ⟨z, hz⟩ : ∃ z, z = (120 - (M.length + 1) % 64) % 64 := ⟨_, rfl⟩
 have P5 := Lib.hid (show RS n k w H (M ++ [128#8] ++ List.replicate 0 0#8) r4 A4 c4 w4 by simpa using P4.out)
 have hL : M.length ≤ 549755813888 := HL.out
 have hm := HM.out
 have hz64 : z < 64 := by omega
 have ZZ := Lib.hid hz
 have Z64 := Lib.hid hz64
 clear P4 P3 P0 PB W2 HKK hmm hml hml2 hz hz64 hm hL
 go_loopg [5] z (fun gh s5 wr => ∃ (i : Nat) (A : Option Addr) (c : Nat) (r : Option Nat), gh = z - i ∧ i ≤ z ∧ s5 = .slice A (m + 1 + i) c ∧ Hid (RS n k w H (M ++ [128#8] ++ List.replicate i 0#8) r A c wr))
 case atStart => exact ⟨0, A4, c4, r4, rfl, by omega, rfl, P5⟩
 case round =>
  clear P5
  obtain ⟨i, A, c, r, rfl, hi, rfl, hI⟩ := hrel
  have hr : (((m + 1 + i : Nat) : Int)).tmod 64 = (((m + 1 + i) % 64 : Nat) : Int) := by rw [Int.tmod_eq_emod_of_nonneg (by omega)]; omega
  by_cases hlt : i < z
  ·have hne : ¬ (((m + 1 + i) % 64 : Nat) : Int) = 56 := by have := HM.out; have := ZZ.out; omega
   have hbd := Lib.hid (show m + 1 + i + 1 ≤ 70368744177664 by have := HM.out; have := HL.out; have := Z64.out; omega)
   have hle := Lib.hid (show m + 1 + i = ((M ++ [128#8] ++ List.replicate i 0#8).map v8).length by have := HM.out; simp; omega)
   go_wp2_with (refine Li.wpList_append_os (n := m + 1 + i) (m := 1) (z := .int .u8 0) (ys := [0#8].map v8) rfl (.tmp 23) (.tmp 24) rfl Tryz.underlying22 info5 rfl (by rfl) (by rfl) (hI.out.ext (Hv.Ext.alloc _ _)).o (Li.Rd.of_blk (Li.Blk.new wr ([0#8].map v8) 5)) (Li.v8_one [0#8]) hle.out rfl hbd.out ?_; intro A6 c6 r6 w6 h1 h2 h3; have P6 := Lib.hid ((hI.out.ext (Hv.Ext.alloc wr (.cells ([0#8].map v8).toArray 5))).app h1 h2 h3); clear h1 h2 h3)
   go_roundg (z - (i + 1))
   case measure => omega
   case rel =>
    refine ⟨i + 1, A6, c6, r6, rfl, by omega, by go_num, Lib.hid ?_⟩
    rw [List.replicate_succ', ← List.append_assoc]
    exact P6.out
  ·have ei : i = z := by omega
   subst ei
   have heq : (((m + 1 + i) % 64 : Nat) : Int) = 56 := by have := HM.out; have := ZZ.out; omega
   obtain ⟨L, hLd⟩ : ∃ L, L = BitVec.ofNat 64 (m * 8) := ⟨_, rfl⟩
   have hmb : m ≤ 549755813888 := by have := HM.out; have := HL.out; omega
   have hu1 : IntKind.u64.wrap (m : Int) = (m : Int) := by rw [IntKind.wrap]; simp [IntKind.bits, IntKind.signed]; omega
   have hu2 : IntKind.u64.wrap (8 * (m : Int)) = n64 L := by rw [hLd]; unfold n64; rw [BitVec.toNat_ofNat, Int.mul_comm]; rw [IntKind.wrap]; simp [IntKind.bits, IntKind.signed]
   have LL := Lib.hid hLd
   have MB := Lib.hid hmb
   obtain ⟨X, hX⟩ : ∃ X, X = M ++ [128#8] ++ List.replicate i 0#8 := ⟨_, rfl⟩
   have hXl : X.length = m + 1 + i := by rw [hX]; have := HM.out; simp; omega
   have hI1 := hI.out
   rw [← hX] at hI1
   have I1 := Lib.hid hI1
   have XL := Lib.hid hXl
   have HX := Lib.hid hX
   obtain ⟨bL, hbL⟩ : ∃ bL, bL = be64 L := ⟨_, rfl⟩
   have HBL := Lib.hid hbL
   have Z65 := Z64.out
   have IZ := Lib.hid (show i < 64 by omega)
   clear hLd hmb hX hXl hI1 hI hbL hlt hi Z65
   go_wp2_with fail
   have hbf : (((m : Int) + 1 + (i : Int)) % 64 != 56) = false := by have := HM.out; have := ZZ.out; simp; omega
   simp only [hbf]
   clear hbf
   go_loopg [5, 7] 8 (fun gh s5 s7 wx => ∃ (q : Nat) (A : Option Addr) (c : Nat) (r : Option Nat), gh = 8 - q ∧ q ≤ 8 ∧ s5 = .slice A (m + 1 + i + q) c ∧ s7 = .int .i64 (7 - (q : Int)) ∧ Hid (RS n k w H (X ++ bL.take q) r A c wx))
   case atStart => exact ⟨0, A, c, r, rfl, by omega, rfl, rfl, Lib.hid (by rw [List.take_zero, List.append_nil]; exact I1.out)⟩
   case round =>
    clear I1 hu1 hu2 heq hr
    obtain ⟨q, A, c, r, rfl, hq, rfl, rfl, hI⟩ := hrel
    by_cases hlt : q < 8
    ·obtain ⟨d, hd⟩ : ∃ d, d = 7 - q := ⟨_, rfl⟩
     have e7 : (7 : Int) - (q : Int) = (d : Int) := by omega
     have e8 : (d : Int) - 1 = 7 - ((q + 1 : Nat) : Int) := by omega
     rw [e7]
     have h1 : IntKind.i64.wrap (8 * (d : Int)) = 8 * (d : Int) := IntWalk.i64_in _ (by omega)
     have hd0 : (0 : Int) ≤ (d : Int) := by omega
     have hwd : wrap64 ((d : Int) - 1) = (d : Int) - 1 := IntWalk.wrap64_in _ (by omega)
     have HD := Lib.hid hd
     have E8 := Lib.hid e8
     have hbd := Lib.hid (show m + 1 + i + q + 1 ≤ 70368744177664 by have := MB.out; have := IZ.out; omega)
     have hbL : bL.length = 8 := by rw [HBL.out, be64_length]
     have hle := Lib.hid (show m + 1 + i + q = ((X ++ bL.take q).map v8).length by have := XL.out; simp; omega)
     clear hd e7 e8 hbL
     obtain ⟨y, hy⟩ : ∃ y, y = L >>> (8 * d) := ⟨_, rfl⟩
     have h3 : Op.shift .shr .u64 (n64 L) .i64 (8 * (d : Int)) = pure (.int .u64 (n64 y)) := by
      rw [Bv.shr_n64 _ _ _ (by omega), hy]; congr 4
     obtain ⟨b, hb⟩ : ∃ b, b = y.setWidth 8 := ⟨_, rfl⟩
     have h4 : IntKind.u8.wrap (n64 y) = n8 b := by rw [Bv.wrap_n8_of, Bv.of8_n64, hb]
     have h5 : n64 y % 256 = n8 b := by have := byte_of y 0; simpa [hb] using this
     have HY := Lib.hid hy
     have HB := Lib.hid hb
     clear hy hb
     go_wp2_with (refine Li.wpList_append_os (n := m + 1 + i + q) (m := 1) (z := .int .u8 0) (ys := [b].map v8) rfl (.tmp 34) (.tmp 40) rfl Tryz.underlying22 info5 rfl (by rfl) (by rfl) (hI.out.ext (Hv.Ext.alloc _ _)).o (Li.Rd.of_blk (Li.Blk.new wr ([b].map v8) 5)) (Li.v8_one [b]) hle.out rfl hbd.out ?_; intro A6 c6 r6 w6 h1 h2 h3; have P6 := Lib.hid ((hI.out.ext (Hv.Ext.alloc wr (.cells ([b].map v8).toArray 5))).app h1 h2 h3); clear h1 h2 h3)
     go_roundg (8 - (q + 1))
     case measure => omega
     case rel =>
      refine ⟨q + 1, A6, c6, r6, rfl, by omega, by go_num, by rw [← E8.out]; go_num, Lib.hid ?_⟩
      rw [HBL.out, be64_take L q hlt, ← List.append_assoc, ← HBL.out]
      have eb : (L >>> (56 - 8 * q)).setWidth 8 = b := by
       rw [HB.out, HY.out, show 8 * d = 56 - 8 * q by have := HD.out; omega]
      rw [eb]
      exact P6.out
    ·have eq : q = 8 := by omega
     subst eq
     obtain ⟨P, hP⟩ : ∃ P, P = padL M := ⟨_, rfl⟩
     have eP : X ++ bL.take 8 = P := by
      rw [hP, HBL.out, be64_all, HX.out, ZZ.out, LL.out, HM.out]; unfold padL; rfl
     have hI1 := hI.out
     rw [eP] at hI1
     have hPl : m + 1 + i + 8 = P.length := by rw [← eP]; have := XL.out; simp [HBL.out, be64_length]; omega
     have I1 := Lib.hid hI1
     have PL := Lib.hid hPl
     have HP := Lib.hid hP
     have PB := Lib.hid (show P.length ≤ 549755814016 by rw [← hPl]; have := MB.out; have := IZ.out; omega)
     clear hI hI1 hPl hP eP hq hlt
     go_wp2_with fail
     have J0 : RS n k w ((chN P 0).map v32) P r A c wr := by
      rw [show chN P 0 = H8 by unfold chN; rfl, ← HH.out]; exact I1.out
     have I0 := Lib.hid J0
     clear J0 I1
     go_loopg [8] (P.length / 64) (fun gh s8 wx => ∃ j : Nat, gh = P.length / 64 - j ∧ j ≤ P.length / 64 ∧ s8 = .int .i64 ((64 * j : Nat) : Int) ∧ Hid (RS n k w ((chN P j).map v32) P r A c wx))
     case atStart => exact ⟨0, rfl, by omega, rfl, I0⟩
     case round =>
      clear I0
      obtain ⟨j, rfl, hj, rfl, hI⟩ := hrel
      by_cases hlt : j < P.length / 64
      ·have hP0 : (P.map v8) ≠ [] := by
        intro h; have := congrArg List.length h; simp at this; subst this; simp at hlt
       obtain ⟨g, off, rfl, hgl, hcell⟩ := hI.out.o.rd.cells hP0
       have hcP : P.length ≤ c := by have := hI.out.o.le; simpa using this
       obtain ⟨bs, hbs⟩ : ∃ bs, bs = (P.drop (64 * j)).take 64 := ⟨_, rfl⟩
       have hb64 : bs.length = 64 := by rw [hbs]; simp; omega
       obtain ⟨S, hS⟩ : ∃ S, S = (chN P j).map v32 := ⟨_, rfl⟩
       obtain ⟨S', hS'⟩ : ∃ S', S' = (chN P (j + 1)).map v32 := ⟨_, rfl⟩
       have hIB : ∀ wx, Hv.Ext wr wx → IsB wx g (off + 64 * j) bs := by
        intro wx hx q hq
        have e := hcell (64 * j + q) (by simp; omega)
        rw [Nat.add_assoc, hx.cells.1 g _ hgl, e, hbs]
        have hq64 : q < 64 := by omega
        rw [List.getElem?_map, List.getD_eq_getElem?_getD, List.getElem?_take_of_lt hq64, List.getElem?_drop]
        rw [List.getElem?_eq_getElem (show 64 * j + q < P.length by omega)]
        rfl
       have T := Lib.hid (fun wx => rstep_any K64 (chN P j) bs K64_length (chN_length _ _) hb64 g (off + 64 * j) (c - 64 * j) wx)
       have hst : (chN P (j + 1)).map v32 = (stepL K64 (chN P j) bs).map v32 := by rw [chN, hbs]
       rw [← hS, ← HK.out, ← hst, ← hS'] at T
       have lS := Lib.hid (show S.length = 8 by rw [hS, List.length_map, chN_length])
       have lS' := Lib.hid (show S'.length = 8 by rw [hS', List.length_map, chN_length])
       have oS' := Lib.hid (show ∀ v ∈ S', v.oneCell' = true by rw [hS']; exact map32_one _)
       have IB := Lib.hid hIB
       have SS' := Lib.hid hS'
       have hI1 := hI.out
       rw [← hS] at hI1
       have I1 := Lib.hid hI1
       have hcut : ∀ wx, (Instr.sliceAt 22 (.slice (some ⟨g, off, none⟩) (m + 1 + i + 8) c) (some (.int .i64 ((64 * j : Nat) : Int))) (some (.int .i64 (((64 * j : Nat) : Int) + 64))) none).run Tryz.prog wx = .ok (.slice (some ⟨g, off + 64 * j, none⟩) 64 (c - 64 * j)) wx := fun wx => by
        have e := Li.cut_mid (P := Tryz.prog) (t := 22) (e := 5) Tryz.underlying22 (by kernel_rfl) g off (m + 1 + i + 8) c (64 * j) (64 * j + 64) (by omega) (by omega) (L := ((64 * j : Nat) : Int)) (H := ((64 * j : Nat) : Int) + 64) rfl (by omega) wx
        rw [Nat.add_sub_cancel_left] at e
        exact e
       obtain ⟨J, hJ⟩ : ∃ J, J = 64 * j := ⟨_, rfl⟩
       rw [← hJ] at hcut T
       have hlt1 : (J : Int) < ((m + 1 + i + 8 : Nat) : Int) := by rw [PL.out]; omega
       have hw1 : IntKind.i64.wrap ((J : Int) + 64) = (J : Int) + 64 := IntWalk.i64_in _ (by have := PB.out; omega)
       have hw2 : wrap64 ((J : Int) + 64) = (J : Int) + 64 := IntWalk.wrap64_in _ (by have := PB.out; omega)
       have HJ := Lib.hid hJ
       have HLT := Lib.hid hlt
       have HBS := Lib.hid hb64
       rw [← hJ] at IB
       clear hcell hP0 hbs hst hIB hS hS' hI hI1 hcP hb64 hlt
       rw [← hJ]
       clear hJ
       go_wp2_with fail
       refine Hv.grow 8 (fun | 7 => some (Hv.con (.agg S'.toArray)) | _ => none) (fun _ => []) (by kernel_rfl) (by kernel_rfl) ?_ ?_
       ·intro i m hm v wa wb hR hv
        split at hm <;> first | cases hm | skip
        all_goals first | exact Hv.row_st hR hv | exact Hv.con_st hR hv | exact Nown_st hR hv | exact Nparts_st hR hv
       change Hv.HW _ _ _ _ _ _ _ [0, 1, 2, 3, 4, 5, 6, 7] _ _
       refine Hv.pure (v := .agg S.toArray) (by rfl) (by rfl) (by rfl) (fun wy hS => Hv.exec_load_blk (by rfl) (by rfl) (I1.out.s.grow hS) Tryz.underlying126 rfl (by rw [lS.out]; kernel_rfl)) ?_
       (try simp only [Act.put, List.setIfInBounds_toArray, List.set_cons_zero, List.set_cons_succ])
       iterate 4 (refine Hv.pure (v := ?_) (by rfl) (by rfl) (by rfl) (fun wx hS => ?_) ?_; rotate_left; (focus (have hc := hS.cells.1; have hz := hS.cells.2; go_simp; (first | done | with_reducible rfl))); (try simp only [Act.put, List.setIfInBounds_toArray, List.set_cons_zero, List.set_cons_succ]))
       refine Hv.pure (v := .slice (some ⟨g, off + J, none⟩) 64 (c - J)) (by rfl) (by rfl) (by rfl) (fun wy hS => ?_) ?_
       ·go_simp
       (try simp only [Act.put, List.setIfInBounds_toArray, List.set_cons_zero, List.set_cons_succ])
       refine Hv.pure (v := .agg K.toArray) (by rfl) (by rfl) (by rfl) (fun wy hS => Hv.exec_load_blk (by rfl) (by rfl) (by rw [HK.out]; exact I1.out.K.grow hS) Tryz.underlying125 rfl (by rw [lK.out]; kernel_rfl)) ?_
       (try simp only [Act.put, List.setIfInBounds_toArray, List.set_cons_zero, List.set_cons_succ])
       refine Hv.noise (m := _) (by rfl) (by rfl) (by rfl) (Hv.con_ex _) (fun wx hS hf => ?_) (fun v hv => ?_)
       ·unfold Hv.Gives
        go_simp
        refine (T.out _ (IB.out wx hS)).mono ?_
        rintro e w' ⟨rfl, hb⟩
        exact ⟨_, rfl, hb, rfl, trivial⟩
       obtain rfl := hv
       (try simp only [Act.put, List.setIfInBounds_toArray, List.set_cons_zero, List.set_cons_succ])
       refine Hv.done (fun wy hS _ => ?_)
       simp only [List.drop_succ_cons, List.drop_zero]
       have I2 := I1.out.ext hS
       have D2 := Lib.hid I2
       have I3 : RS n k w S' P r (some ⟨g, off, none⟩) c (wy.setCells (k + 1) 0 S') := by
        have hz := I2.nk
        obtain ⟨_, _, h3⟩ := I2.ne
        exact ⟨I2.z.setCellsOther (by omega) _ _, I2.K.setCellsOther (by omega) _ _, I2.s.setAll (by rw [lS.out, lS'.out]), I2.o.of_block fun b hb => Li.heap_setCells_other _ _ _ _ _ (fun e => h3 (by rw [hb, e])), Li.below_setCells _ _ _ _ I2.b (by omega), I2.nk, I2.r0⟩
       have D3 := Lib.hid I3
       clear I2 I3 hS hcut
       go_wp2_with (refine Li.wpList_store_blk rfl 126 _ _ rfl (k + 1) (by rfl) (by rfl) D2.out.s (by rw [lS.out, lS'.out]) (by rw [lS'.out]; kernel_rfl) oS'.out ?_)
       go_roundg (P.length / 64 - (j + 1))
       case measure => have := HLT.out; omega
       case rel =>
        refine ⟨j + 1, rfl, HLT.out, by rw [show 64 * (j + 1) = J + 64 by rw [HJ.out]; rfl]; go_num, Lib.hid ?_⟩
        rw [← SS'.out]
        exact D3.out
      ·have ej : j = P.length / 64 := by omega
       subst ej
       obtain ⟨st, hst⟩ : ∃ st, st = chN P (P.length / 64) := ⟨_, rfl⟩
       have hsl : st.length = 8 := by rw [hst]; exact chN_length _ _
       have hI1 := hI.out
       rw [← hst] at hI1
       have hget : ∀ b, b < 8 → (st.map v32)[b]? = some (.int .u32 (n32 (st.getD b 0))) := fun b hb => by simp [v32, hsl, hb]
       obtain ⟨x, hx⟩ : ∃ x, x = wr.heap.size := ⟨_, rfl⟩
       have hnk := hI1.nk
       have hxk : k + 1 < x := by rw [hx]; exact hI1.s.lt
       have hxb : Below n w (wr.alloc (.cells (List.replicate 32 (v8 0#8)).toArray 34)) := hI1.b.alloc (by omega) _
       have s9 := hI1.s.alloc (.cells (List.replicate 32 (v8 0#8)).toArray 34)
       have z9 := hI1.z.alloc (.cells (List.replicate 32 (v8 0#8)).toArray 34)
       have d9 : Li.Blk (wr.alloc (.cells (List.replicate 32 (v8 0#8)).toArray 34)) x (List.replicate 32 (v8 0#8)) 34 := Li.Blk.new' hx
       obtain ⟨ds, hds⟩ : ∃ ds, ds = dig st := ⟨_, rfl⟩
       have I0 := Lib.hid (show Li.Blk (wr.alloc (.cells (List.replicate 32 (v8 0#8)).toArray 34)) x (DR ds 0) 34 ∧ Li.Blk (wr.alloc (.cells (List.replicate 32 (v8 0#8)).toArray 34)) n (List.replicate 32 (v8 0#8)) 34 ∧ Li.Blk (wr.alloc (.cells (List.replicate 32 (v8 0#8)).toArray 34)) (k + 1) (st.map v32) 126 ∧ Below n w (wr.alloc (.cells (List.replicate 32 (v8 0#8)).toArray 34)) from ⟨d9, z9, s9, hxb⟩)
       have HDS := Lib.hid hds
       have HG := Lib.hid hget
       have HST := Lib.hid hst
       have HX1 := Lib.hid hx
       have hP6 : ¬ ((64 * (P.length / 64) : Nat) : Int) < ((m + 1 + i + 8 : Nat) : Int) := by
        have := padL_length M; rw [← HP.out] at this; rw [PL.out]; omega
       clear hds hget hst hI hI1 s9 z9 d9 hxb hsl hj hlt hx
       go_wp2_with fail
       rw [← HX1.out]
       go_loopg [10] 32 (fun gh s10 wx => ∃ q : Nat, gh = 32 - q ∧ q ≤ 32 ∧ s10 = .int .i64 q ∧ Hid (Li.Blk wx x (DR ds q) 34 ∧ Li.Blk wx n (List.replicate 32 (v8 0#8)) 34 ∧ Li.Blk wx (k + 1) (st.map v32) 126 ∧ Below n w wx))
       case atStart => exact ⟨0, rfl, by omega, rfl, I0⟩
       case round =>
        clear I0 hP6
        obtain ⟨q, rfl, hq, rfl, hI⟩ := hrel
        by_cases hlt : q < 32
        ·have hki : (q : Int) < 32 := by omega
         obtain ⟨a, ha⟩ : ∃ a, a = q / 4 := ⟨_, rfl⟩
         obtain ⟨b, hb⟩ : ∃ b, b = q % 4 := ⟨_, rfl⟩
         have hqq : (q : Int).tdiv 4 = (a : Int) := by rw [Int.tdiv_eq_ediv_of_nonneg (by omega)]; omega
         have hr : (q : Int).tmod 4 = (b : Int) := by rw [Int.tmod_eq_emod_of_nonneg (by omega)]; omega
         have ha8 : (a : Int) < 8 := by omega
         have ha8' : a < 8 := by omega
         have h1 : IntKind.i64.wrap ((b : Int) * 8) = (b : Int) * 8 := IntWalk.i64_in _ (by omega)
         have h2 : IntKind.i64.wrap (24 - (b : Int) * 8) = 24 - (b : Int) * 8 := IntWalk.i64_in _ (by omega)
         have h3 : IntKind.i64.wrap (a : Int) = (a : Int) := IntWalk.i64_in _ (by omega)
         have hb4 : (b : Int) < 4 := by omega
         obtain ⟨y, hy⟩ : ∃ y, y = st.getD a 0 := ⟨_, rfl⟩
         have ca := (hI.out.2.2.1.cell a).trans (HG.out a ha8')
         rw [← hy] at ca
         have HY := Lib.hid hy
         have ck : wr.cell? ⟨x, q, none⟩ = some _ := (hI.out.1.cell q).trans (Li.rowOf_get _ _ _ _ hlt)
         have fk := hI.out.1.frozen q
         have AA := Lib.hid ha
         have BB := Lib.hid hb
         clear ha hb hy
         go_wp2_with fail
         go_roundg (32 - (q + 1))
         case measure => omega
         case rel =>
          have ol := hI.out.1.lt
          refine ⟨q + 1, rfl, by omega, by go_num, Lib.hid ⟨?_, hI.out.2.1.setOther (by have := hI.out.2.1.lt; simp; omega) _, hI.out.2.2.1.setOther (by simp; omega) _, hI.out.2.2.2.setCell (by simp; omega) _⟩⟩
          have e := hI.out.1.set q (v8 ((y >>> (24 - 8 * b)).setWidth 8))
          rw [HY.out, AA.out, BB.out, HDS.out, DR_set st q hlt, ← HDS.out] at e
          rw [Nat.mul_comm b 8, byte_of32 y (24 - 8 * b), HY.out, AA.out, BB.out]
          exact e
        ·have eq32 : q = 32 := by omega
         subst eq32
         have hz := hI.out.1
         have hz0 := hI.out.2.1
         have hb := hI.out.2.2.2
         have eS : DR ds 32 = (shaL M).map v8 := by
          rw [HDS.out, DR_all, HST.out, HP.out]; unfold shaL; rfl
         rw [eS] at hz
         have lS : ((shaL M).map v8).length = 32 := by rw [List.length_map]; unfold shaL; rw [dig_length]
         obtain ⟨R, hR⟩ : ∃ R, R = (shaL M).map v8 := ⟨_, rfl⟩
         have oS : ∀ v ∈ (shaL M).map v8, v.oneCell' = true := Li.v8_one _
         rw [← hR] at hz lS oS
         have HR := Lib.hid hR
         have PZ := Lib.hid hz
         have PZ0 := Lib.hid hz0
         have PBB := Lib.hid hb
         have PLL := Lib.hid lS
         have PO := Lib.hid oS
         clear hz hb eS lS hR oS hI hq hz0
         go_wp2_with (first
          | (refine Li.wpList_load_blk rfl 34 _ rfl x (by rfl) PZ.out Tryz.underlying34 rfl (by rw [PLL.out]; kernel_rfl) ?_)
          | (refine Li.wpList_store_blk rfl 34 _ _ rfl n (by rfl) (by rfl) PZ0.out (by rw [PLL.out]; rfl) (by rw [PLL.out]; kernel_rfl) PO.out ?_))
         refine Li.bodyPost_blk (by rfl) (by rfl) (PZ0.out.setAll (by rw [PLL.out]; rfl)) Tryz.underlying34 rfl (by rw [PLL.out]; kernel_rfl) rfl ⟨by rw [HR.out], ?_⟩
         rw [← hnx.out]
         exact Li.below_setCells _ _ _ _ PBB.out (Nat.le_refl _)
end Sha
end Go.Proofs.YtakdoijemopejaaGreat


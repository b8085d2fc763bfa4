/- The walk of Digest.Sum. -/
import Derived.Test.YtakdoijemopejaaGreatShaSum
set_option maxRecDepth 100000
set_option linter.unusedSimpArgs false
set_option linter.unusedVariables false
namespace Go.Proofs.YtakdoijemopejaaGreat
open Go.RowKit
namespace Sha
open Bv (n8 n16 n32 n64)
attribute [local go_sem ↓] zero42
attribute [local irreducible] K64 H8 stepL chN chW zs8 zs64 be64 dig padL
theorem byte_of (L : BitVec 64) (s : Nat) : n64 L / 2 ^ s % 256 = n8 ((L >>> s).setWidth 8) := by
 unfold n64 n8
 rw [BitVec.toNat_setWidth, BitVec.toNat_ushiftRight, Nat.shiftRight_eq_div_pow]
 simp
theorem byte_of32 (L : BitVec 32) (s : Nat) : n32 L / 2 ^ s % 256 = n8 ((L >>> s).setWidth 8) := by
 unfold n32 n8
 rw [BitVec.toNat_setWidth, BitVec.toNat_ushiftRight, Nat.shiftRight_eq_div_pow]
 simp
theorem be64_take (L : BitVec 64) (k : Nat) (h : k < 8) : (be64 L).take (k + 1) = (be64 L).take k ++ [(L >>> (56 - 8 * k)).setWidth 8] := by
 unfold be64
 rw [List.take_succ_eq_append_getElem (by simpa using h)]
 simp
theorem be64_all (L : BitVec 64) : (be64 L).take 8 = be64 L := by unfold be64; rfl
theorem be64_length (L : BitVec 64) : (be64 L).length = 8 := by unfold be64; rfl
set_option maxHeartbeats 4000000 in
theorem sum_any (D : Nat) (r : Option Nat) (M : List (BitVec 8)) (hM : M.length ≤ 549755813888) (w : World) (hD : Dg w D r M) :
  Calls Tryz.prog 71 #[.pointer (some ⟨D, 0, none⟩)] w fun e w' => e = .returned (.agg ((shaL M).map v8).toArray) ∧ Below w.heap.size w w' := by
 obtain ⟨n, hn⟩ : ∃ n, n = w.heap.size := ⟨_, rfl⟩
 have HM := Lib.hid hM
 have HD := Lib.hid hD
 have HN := Lib.hid hn
 have H75 := chW_length zs8_l zs64_l false (.slice none 0 0) (.int .i64 0)
 have HO := chW_one zs8 zs64 false none 0 0 0
 clear hM hD hn
 go_enter Tryz.func71, Tryz.ntmps71
 have L75 := Lib.hid H75
 have LO := Lib.hid HO
 clear H75 HO
 obtain ⟨Z, hZ⟩ : ∃ Z, Z = List.replicate 32 (v8 0#8) := ⟨_, rfl⟩
 obtain ⟨w0, hw0⟩ : ∃ w0, w0 = ((w.alloc (.cells Z.toArray 34)).alloc (.cells (chW zs8 zs64 false (.slice none 0 0) (.int .i64 0)).toArray 135)).setCells (n + 1) 0 (chW zs8 zs64 false (.slice none 0 0) (.int .i64 0)) := ⟨_, rfl⟩
 have z0 : Li.Blk w0 n Z 34 := by rw [hw0]; exact (Li.Blk.alloc (Li.Blk.new' HN.out) _).setCellsOther (by omega) _ _
 have d0 : Li.Blk w0 (n + 1) (chW zs8 zs64 false (.slice none 0 0) (.int .i64 0)) 135 := by rw [hw0]; exact (Li.Blk.new' (by rw [HN.out]; simp only [World.size_alloc])).setAll rfl
 have b0 : Below n w w0 := by rw [hw0]; exact Li.below_setCells _ _ _ _ (((Below.refl _ _).alloc (by rw [HN.out]; exact Nat.le_refl _) _).alloc (by rw [HN.out]; simp only [World.size_alloc]; omega) _) (by omega)
 have CP := Lib.hid (copy_any D r M w0 (HD.out.ext (by rw [← HN.out]; exact b0)))
 have Z0 := Lib.hid z0
 have D0 := Lib.hid d0
 have B0 := Lib.hid b0
 have HZ := Lib.hid hZ
 have HW0 := Lib.hid hw0
 have hs0 := d0.lt
 have HS0 := Lib.hid hs0
 clear z0 d0 b0 hZ hw0 hs0
 go_wp2_with (first
  | (refine Li.wpList_store_blk rfl 135 _ _ rfl (n + 1) (vs := chW zs8 zs64 false (.slice none 0 0) (.int .i64 0)) (by rw [HN.out]; rfl) (by rfl) (l := chW zs8 zs64 false (.slice none 0 0) (.int .i64 0)) (t := 135) (Li.Blk.new' (by rw [HN.out]; simp only [World.size_alloc])) rfl (by rw [L75.out]; kernel_rfl) LO.out ?_; show wpList _ _ _ _ _ (((w.alloc (.cells (List.replicate 32 (v8 0#8)).toArray 34)).alloc (.cells (chW zs8 zs64 false (.slice none 0 0) (.int .i64 0)).toArray 135)).setCells (n + 1) 0 (chW zs8 zs64 false (.slice none 0 0) (.int .i64 0))); rw [← HZ.out, ← HW0.out, ← HN.out]))
 refine Calls.mono CP.out ?_
 rintro e w1 ⟨D', r', rfl, hD', ⟨s, k, A, c, hC⟩, hb1, hr'⟩
 have H := Lib.hid hC
 have z1 := Z0.out.grow hb1
 have d1 := D0.out.grow hb1
 obtain ⟨cs, hcs⟩ : ∃ cs, cs = chW s k (decide (0 < M.length / 64)) (.slice A (M.length - 64 * (M.length / 64)) c) (.int .i64 (M.length : Nat)) := ⟨_, rfl⟩
 have hd := hC.d
 rw [← hcs] at hd
 have lcs : cs.length = 75 := by rw [hcs]; exact chW_length hC.hs hC.hk _ _ _
 have ocs : ∀ v ∈ cs, v.oneCell' = true := by rw [hcs]; exact chW_one _ _ _ _ _ _ _
 have d2 := d1.setAll (vs := cs) (by rw [lcs, L75.out])
 have c74 := (d2.cell 74).trans (show _ = some (.int .i64 (M.length : Nat)) by rw [hcs]; exact chW_74 hC.hs hC.hk _ _ _)
 have I2 : SI n w Z (w1.setCells (n + 1) 0 cs) M := by
  have hs1 := HS0.out
  refine ⟨⟨r', ⟨s, k, A, c, by rw [← hcs]; exact d2, ?_, hC.hs, hC.hk, hC.hrd, hC.le⟩, fun g hg => by have := hr' g hg; omega⟩, z1.setCellsOther (by omega) _ _, Li.below_setCells _ _ _ _ (B0.out.trans (hb1.mono (by omega))) (by omega)⟩
  exact hC.o.of_block fun g hg => Li.heap_setCells_other _ _ _ _ _ (by have := hr' g hg; omega)
 have P2 := Lib.hid I2
 have PD := Lib.hid hd
 have PE := Lib.hid d1
 have LC := Lib.hid lcs
 have OC := Lib.hid ocs
 obtain ⟨m, hm⟩ : ∃ m, m = M.length := ⟨_, rfl⟩
 rw [← hm] at c74
 have MM := Lib.hid hm
 obtain ⟨L, hL⟩ : ∃ L, L = BitVec.ofNat 64 (m * 8) := ⟨_, rfl⟩
 have hmb : m ≤ 549755813888 := by rw [hm]; exact HM.out
 have hu1 : IntKind.u64.wrap (m : Int) = (m : Int) := by rw [IntKind.wrap]; simp [IntKind.bits, IntKind.signed]; omega
 have hu2 : IntKind.u64.wrap ((m : Int) * 8) = n64 L := by rw [hL]; unfold n64; rw [BitVec.toNat_ofNat]; rw [IntKind.wrap]; simp [IntKind.bits, IntKind.signed]
 have LL := Lib.hid hL
 clear hC z1 d1 hd lcs ocs d2 I2 hm hcs hL hmb hb1 hD' hr' CP Z0 D0 B0 HW0 H
 go_wp2_with (first
  | (refine Li.wpList_load_blk rfl 135 _ rfl D' (by rfl) PD.out Tryz.underlying135 rfl (by rw [LC.out]; kernel_rfl) ?_)
  | (refine Li.wpList_store_blk rfl 135 _ _ rfl (n + 1) (by rfl) (by rfl) PE.out (by rw [LC.out, L75.out]) (by rw [LC.out]; kernel_rfl) OC.out ?_))
 refine Calls.mono (write_byte P2.out 128#8 (by have := HM.out; omega)) ?_
 rintro e w3 ⟨rfl, I3, _⟩
 obtain ⟨q, hq⟩ : ∃ q, q = (M ++ [128#8]).length - 64 * ((M ++ [128#8]).length / 64) := ⟨_, rfl⟩
 have hqe : q = (M.length + 1) % 64 := by rw [hq, List.length_append]; simp; omega
 have hq64 : (q : Int) < 64 := by omega
 obtain ⟨r3, ⟨s3, k3, A3, c3, hC3⟩, _⟩ := I3.ex
 have c73 := (hC3.d.cell 73).trans (chW_73 hC3.hs hC3.hk _ _ _)
 rw [← hq] at c73
 obtain ⟨z, hz⟩ : ∃ z, z = (120 - q) % 64 := ⟨_, rfl⟩
 have hw1 : IntKind.i64.wrap (120 - (q : Int)) = 120 - (q : Int) := IntWalk.i64_in _ (by omega)
 have hw2 : (120 - (q : Int)).tmod 64 = (z : Int) := by rw [Int.tmod_eq_emod_of_nonneg (by omega)]; omega
 have hmk : ∀ wx : World, (Instr.makeSlice 22 (.int .i64 (z : Int)) (.int .i64 (z : Int))).run Tryz.prog wx = .ok (.slice (some ⟨wx.heap.size, 0, none⟩) z z) (wx.alloc (.cells (List.replicate z (v8 0#8)).toArray 5)) := fun wx => Li.run_makeN Tryz.underlying22 info5 rfl z rfl (by omega) (by omega) wx
 have P3 := Lib.hid I3
 have HZZ := Lib.hid (show z = (120 - (M.length + 1) % 64) % 64 by rw [hz, hqe])
 have z64 : z < 64 := by omega
 clear hC3 I3 hq hqe hz P2 c74
 go_wp2_with fail
 have WZ := write_zeros P3.out z (by have := HM.out; simp; omega)
 rw [List.toArray_replicate] at WZ
 refine Calls.mono WZ ?_
 rintro e w4 ⟨rfl, I4, _⟩
 obtain ⟨Q, hQ⟩ : ∃ Q, Q = M ++ [128#8] ++ List.replicate z 0#8 := ⟨_, rfl⟩
 rw [← hQ] at I4
 have hQl : Q.length ≤ 549755814000 := by rw [hQ]; have := HM.out; simp; omega
 have P4 := Lib.hid I4
 have QL := Lib.hid hQl
 have HQ := Lib.hid hQ
 clear WZ P3 I4 hQl hQ hmk hw1 hw2 hq64 z64 c73 hu1 hu2
 obtain ⟨bL, hbL⟩ : ∃ bL, bL = be64 L := ⟨_, rfl⟩
 have HBL := Lib.hid hbL
 clear hbL
 go_wp2_with fail
 go_loopg [27] 8 (fun gh s27 wr => ∃ k : Nat, gh = 8 - k ∧ k ≤ 8 ∧ s27 = .int .i64 k ∧ Hid (SI n w Z wr (Q ++ bL.take k)))
 case atStart => exact ⟨0, rfl, by omega, rfl, Lib.hid (by rw [List.take_zero, List.append_nil]; exact P4.out)⟩
 case round =>
  obtain ⟨k, rfl, hk, rfl, hI⟩ := hrel
  by_cases hlt : k < 8
  ·have hki : (k : Int) < 8 := by omega
   have h1 : IntKind.i64.wrap (8 * (k : Int)) = 8 * (k : Int) := IntWalk.i64_in _ (by omega)
   have h2 : IntKind.i64.wrap (56 - 8 * (k : Int)) = 56 - 8 * (k : Int) := IntWalk.i64_in _ (by omega)
   go_wp2_with fail
   rw [byte_of L (56 - 8 * k)]
   refine Calls.mono (write_byte hI.out ((L >>> (56 - 8 * k)).setWidth 8) (by have := QL.out; simp; omega)) ?_
   rintro e w5 ⟨rfl, I5, _⟩
   have P5 := Lib.hid I5
   clear I5 h1 h2
   go_wp2_with fail
   go_roundg (8 - (k + 1))
   case measure => omega
   case rel => exact ⟨k + 1, rfl, by omega, by go_num, Lib.hid (by rw [HBL.out, be64_take L k hlt, ← List.append_assoc, ← HBL.out]; exact P5.out)⟩
  ·have ek : k = 8 := by omega
   subst ek
   obtain ⟨P, hP⟩ : ∃ P, P = padL M := ⟨_, rfl⟩
   have eP : Q ++ bL.take 8 = P := by
    rw [hP, HBL.out, be64_all, HQ.out, LL.out, MM.out, HZZ.out]; unfold padL; rfl
   have hI1 := hI.out
   rw [eP] at hI1
   have P6 := Lib.hid hI1
   have HP := Lib.hid hP
   clear eP hI hI1 hP P4 hk
   go_wp2_with fail
   obtain ⟨r6, ⟨s6, k6, A6, c6, hC6⟩, _⟩ := P6.out.ex
   have hpos : 0 < P.length / 64 := by rw [HP.out]; exact padL_pos M
   obtain ⟨st, hst⟩ : ∃ st, st = chN P (P.length / 64) := ⟨_, rfl⟩
   obtain rfl : s6 = st := by rw [hst]; exact (hC6.hrd hpos).2
   obtain ⟨C, hC⟩ : ∃ C, C = chW s6 k6 (decide (0 < P.length / 64)) (.slice A6 (P.length - 64 * (P.length / 64)) c6) (.int .i64 (P.length : Nat)) := ⟨_, rfl⟩
   have hd6 := hC6.d
   rw [← hC] at hd6
   have hget : ∀ i, i < 8 → C[i]? = some (.int .u32 (n32 (s6.getD i 0))) := by rw [hC]; exact chW_get hC6.hs _ _ _
   have HG := Lib.hid hget
   have J6 := Lib.hid hd6
   have HST := Lib.hid hst
   clear hC6 hC hd6 hget hst hpos
   obtain ⟨ds, hds⟩ : ∃ ds, ds = dig s6 := ⟨_, rfl⟩
   have HDS := Lib.hid hds
   clear hds
   go_loopg [39] 32 (fun gh s39 wx => ∃ k : Nat, gh = 32 - k ∧ k ≤ 32 ∧ s39 = .int .i64 k ∧ Hid (Li.Blk wx n (DR ds k) 34 ∧ Li.Blk wx (n + 1) C 135 ∧ Below n w wx))
   case atStart => exact ⟨0, rfl, by omega, rfl, Lib.hid ⟨by rw [show DR ds 0 = Z by rw [HZ.out]; rfl]; exact P6.out.z, J6.out, P6.out.b⟩⟩
   case round =>
    obtain ⟨k, rfl, hk, rfl, hI⟩ := hrel
    by_cases hlt : k < 32
    ·have hki : (k : Int) < 32 := by omega
     obtain ⟨a, ha⟩ : ∃ a, a = k / 4 := ⟨_, rfl⟩
     obtain ⟨b, hb⟩ : ∃ b, b = k % 4 := ⟨_, rfl⟩
     have hq : (k : Int).tdiv 4 = (a : Int) := by rw [Int.tdiv_eq_ediv_of_nonneg (by omega)]; omega
     have hr : (k : Int).tmod 4 = (b : Int) := by rw [Int.tmod_eq_emod_of_nonneg (by omega)]; omega
     have ha8 : (a : Int) < 8 := by omega
     have ha8' : a < 8 := by omega
     have h1 : IntKind.i64.wrap (8 * (b : Int)) = 8 * (b : Int) := IntWalk.i64_in _ (by omega)
     have h2 : IntKind.i64.wrap (24 - 8 * (b : Int)) = 24 - 8 * (b : Int) := IntWalk.i64_in _ (by omega)
     have h3 : IntKind.i64.wrap (a : Int) = (a : Int) := IntWalk.i64_in _ (by omega)
     have hb4 : (b : Int) < 4 := by omega
     obtain ⟨x, hx⟩ : ∃ x, x = s6.getD a 0 := ⟨_, rfl⟩
     have ca := (hI.out.2.1.cell a).trans (HG.out a ha8')
     rw [← hx] at ca
     have HX := Lib.hid hx
     clear hx
     have ck : wr.cell? ⟨n, k, none⟩ = some _ := (hI.out.1.cell k).trans (Li.rowOf_get _ _ _ _ hlt)
     have fk := hI.out.1.frozen k
     have AA := Lib.hid ha
     have BB := Lib.hid hb
     clear ha hb
     go_wp2_with fail
     rw [byte_of32 x (24 - 8 * b)]
     go_roundg (32 - (k + 1))
     case measure => omega
     case rel =>
      refine ⟨k + 1, rfl, by omega, by go_num, Lib.hid ⟨?_, hI.out.2.1.setOther (by simp) _, hI.out.2.2.setCell (by simp) _⟩⟩
      have e := hI.out.1.set k (v8 ((x >>> (24 - 8 * b)).setWidth 8))
      rw [HX.out, AA.out, BB.out, HDS.out, DR_set s6 k hlt, ← HDS.out] at e
      rw [HX.out, AA.out, BB.out]
      exact e
    ·have ek : k = 32 := by omega
     subst ek
     have hz := hI.out.1
     have hb := hI.out.2.2
     have eS : DR ds 32 = (shaL M).map v8 := by
      rw [HDS.out, DR_all, HST.out, HP.out]; unfold shaL; rfl
     rw [eS] at hz
     have lS : ((shaL M).map v8).length = 32 := by rw [List.length_map]; unfold shaL; rw [dig_length]
     obtain ⟨R, hR⟩ : ∃ R, R = (shaL M).map v8 := ⟨_, rfl⟩
     have oS : ∀ v ∈ (shaL M).map v8, v.oneCell' = true := Li.v8_one _
     rw [← hR] at hz lS oS
     have HR := Lib.hid hR
     have PZ := Lib.hid hz
     have PB := Lib.hid hb
     have PL := Lib.hid lS
     have PO := Lib.hid oS
     clear hz hb eS lS hR oS hI hk
     go_wp2_with (first
      | (refine Li.wpList_load_blk rfl 34 _ rfl n (by rfl) PZ.out Tryz.underlying34 rfl (by rw [PL.out]; kernel_rfl) ?_)
      | (refine Li.wpList_store_blk rfl 34 _ _ rfl n (by rfl) (by rfl) PZ.out rfl (by rw [PL.out]; kernel_rfl) PO.out ?_))
     refine Li.bodyPost_blk (by rfl) (by rfl) (PZ.out.setAll rfl) Tryz.underlying34 rfl (by rw [PL.out]; kernel_rfl) rfl ⟨by rw [HR.out], ?_⟩
     rw [← HN.out]
     exact Li.below_setCells _ _ _ _ PB.out (Nat.le_refl _)
end Sha
end Go.Proofs.YtakdoijemopejaaGreat


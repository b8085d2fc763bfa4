/- The walk of sha.HMAC. -/
import Derived.Test.YtakdoijemopejaaGreatShaHm1
set_option maxRecDepth 100000
set_option linter.unusedSimpArgs false
set_option linter.unusedVariables false
namespace Go.Proofs.YtakdoijemopejaaGreat
open Go Go.RowKit
open Se Li
namespace Sha
open Bv (n8 n16 n32 n64)
attribute [local irreducible] shaL
/-- The key of an HMAC as a block. -/
def keyL (key : List (BitVec 8)) : List (BitVec 8) := if 64 < key.length then shaL key else key
def padK (key : List (BitVec 8)) : List (BitVec 8) := keyL key ++ List.replicate (64 - (keyL key).length) 0#8
def hmacL (key msg : List (BitVec 8)) : List (BitVec 8) := shaL ((padK key).map (· ^^^ 0x5c#8) ++ shaL ((padK key).map (· ^^^ 0x36#8) ++ msg))
theorem keyL_length (key : List (BitVec 8)) : (keyL key).length ≤ 64 := by
 unfold keyL
 split
 ·rw [shaL_length]; omega
 ·omega
theorem padK_length (key : List (BitVec 8)) : (padK key).length = 64 := by
 have := keyL_length key
 unfold padK
 simp; omega
theorem padK_cells (key : List (BitVec 8)) {Z ys : List Value} (hZ : Z = List.replicate 64 (v8 0#8)) (hy : ys = (keyL key).map v8) : Z.take 0 ++ (ys.take 64 ++ Z.drop (0 + (ys.take 64).length)) = (padK key).map v8 := by
 have hl := keyL_length key
 subst hZ hy
 unfold padK
 rw [List.take_zero, List.nil_append, List.take_of_length_le (by rw [List.length_map]; exact hl), List.map_append, List.drop_replicate]
 simp
theorem zero25 : (Tryz.prog.info? 34).bind (fun i => i.zero.map (·.cells.toList)) = some (List.replicate 32 (v8 0#8)) := by kernel_rfl
theorem zero32 : (Tryz.prog.info? 120).bind (fun i => i.zero.map (·.cells.toList)) = some (List.replicate 64 (v8 0#8)) := by kernel_rfl
theorem info5' : (Tryz.prog.info? 5).map (fun i => (i.zero, i.size, i.bytes)) = some (some (.int .u8 0), 1, 1) := by kernel_rfl
set_option maxHeartbeats 4000000 in
theorem hmac_st {w0 w : World} {X : List Nat} {L : List At} (hs : St w0 X L w) (key msg : List (BitVec 8)) (A B : Option Addr) (n m c d : Nat) (hn : n = key.length) (hm : m = msg.length) (hkl : key.length ≤ 549755813888) (hml : msg.length ≤ 274877906944) (hk : Reads L A (key.map v8)) (hg : Reads L B (msg.map v8)) :
  Calls Tryz.prog 50 #[.slice A n c, .slice B m d] w fun e w' => e = .returned (.agg ((hmacL key msg).map v8).toArray) ∧ St w0 X L w' := by
 have HN := Lib.hid hn
 have HM := Lib.hid hm
 have HKL := Lib.hid hkl
 have HML := Lib.hid hml
 obtain ⟨Z, hZ⟩ : ∃ Z, Z = List.replicate 32 (v8 0#8) := ⟨_, rfl⟩
 obtain ⟨Z2, hZ2⟩ : ∃ Z, Z = List.replicate 64 (v8 0#8) := ⟨_, rfl⟩
 have lZ : Z.length = 32 := by rw [hZ]; simp
 have lZ2 : Z2.length = 64 := by rw [hZ2]; simp
 have z25 := zero25
 have z32 := zero32
 rw [← hZ] at z25
 rw [← hZ2] at z32
 have HZ2 := Lib.hid hZ2
 have LZ := Lib.hid lZ
 have LZ2 := Lib.hid lZ2
 have Z25 := Lib.hid z25
 have Z32 := Lib.hid z32
 obtain ⟨pk, hpk⟩ : ∃ pk, pk = padK key := ⟨_, rfl⟩
 have lpk : pk.length = 64 := by rw [hpk]; exact padK_length key
 have HPK := Lib.hid hpk
 have LPK := Lib.hid lpk
 obtain ⟨sk, hsk⟩ : ∃ sk, sk = (keyL key).map v8 := ⟨_, rfl⟩
 have lsk : sk.length ≤ 64 := by rw [hsk, List.length_map]; exact keyL_length key
 have e5 := padK_cells key hZ2 hsk
 rw [← hpk] at e5
 obtain ⟨p1, hp1⟩ : ∃ p1, p1 = pk.map (· ^^^ 0x36#8) := ⟨_, rfl⟩
 obtain ⟨p2, hp2⟩ : ∃ p2, p2 = pk.map (· ^^^ 0x5c#8) := ⟨_, rfl⟩
 obtain ⟨M1, hM1⟩ : ∃ M1, M1 = p1 ++ msg := ⟨_, rfl⟩
 obtain ⟨R1, hR1⟩ : ∃ R1, R1 = (shaL M1).map v8 := ⟨_, rfl⟩
 obtain ⟨M2, hM2⟩ : ∃ M2, M2 = p2 ++ shaL M1 := ⟨_, rfl⟩
 obtain ⟨R2, hR2⟩ : ∃ R2, R2 = (shaL M2).map v8 := ⟨_, rfl⟩
 have hR : R2 = (hmacL key msg).map v8 := by rw [hR2, hM2, hM1, hp1, hp2, hpk]; rfl
 have l1 : M1.length = 64 + m := by rw [hM1, List.length_append, hp1, List.length_map, lpk, hm]
 have l2 : M2.length = 96 := by rw [hM2, List.length_append, hp2, List.length_map, lpk, shaL_length]
 have a1 : M1.map v8 = p1.map v8 ++ msg.map v8 := by rw [hM1, List.map_append]
 have a2 : M2.map v8 = p2.map v8 ++ R1 := by rw [hM2, List.map_append, hR1]
 have lR1 : R1.length = 32 := by rw [hR1, List.length_map, shaL_length]
 have lR2 : R2.length = 32 := by rw [hR2, List.length_map, shaL_length]
 have oR1 : ∀ v ∈ R1, v.oneCell' = true := by rw [hR1]; exact v8_one _
 have oR2 : ∀ v ∈ R2, v.oneCell' = true := by rw [hR2]; exact v8_one _
 rw [← hR]
 have HR1 := Lib.hid hR1
 have HR2 := Lib.hid hR2
 have HL1 := Lib.hid l1
 have HL2 := Lib.hid l2
 have HA1 := Lib.hid a1
 have HA2 := Lib.hid a2
 have LR1 := Lib.hid lR1
 have LR2 := Lib.hid lR2
 have OR1 := Lib.hid oR1
 have OR2 := Lib.hid oR2
 have HP1 := Lib.hid hp1
 have HP2 := Lib.hid hp2
 have E5 := Lib.hid e5
 have HSK := Lib.hid hsk
 have LSK := Lib.hid lsk
 have OSK := Lib.hid (show ∀ v ∈ sk, v.oneCell' = true by rw [hsk]; exact v8_one _)
 have hlo := Nat.lt_or_ge 64 n
 clear hkl hml hZ hZ2 lZ lZ2 z25 z32 hpk lpk hsk lsk e5 hp1 hp2 hM1 hM2 hR1 hR2 hR l1 l2 a1 a2 lR1 lR2 oR1 oR2
 rcases hlo with hlo | hlo
 focus
  have hl2 : sk = (shaL key).map v8 := by rw [HSK.out]; unfold keyL; rw [if_pos (by omega)]
  have h32 : sk.length = 32 := by rw [hl2, List.length_map, shaL_length]
  have H2 := Lib.hid hl2
  have H32 := Lib.hid h32
  have hli : (64 : Int) < (n : Int) := by omega
  clear hl2 h32 hlo hn hm
  go_enter Tryz.func50, Tryz.ntmps50
  go_wp2_with (first | ((with_reducible refine Se.isL (o := ⟨some 4, _, _, _, _, _⟩) ?_); (refine Se.toL rfl (Se.al (o := ⟨some 4, _, _, _, _, _⟩) hs rfl (Z25.out) ?_); clear hs; rintro w g4 - hs)) | ((with_reducible refine Se.isL (o := ⟨some 5, _, _, _, _, _⟩) ?_); (refine Se.toL rfl (Se.al (o := ⟨some 5, _, _, _, _, _⟩) hs rfl (Z32.out) ?_); clear hs; rintro w g5 - hs)) | ((with_reducible refine Se.isL (o := ⟨some 6, _, _, _, _, _⟩) ?_); (refine Se.toL rfl (Se.al (o := ⟨some 6, _, _, _, _, _⟩) hs rfl (Z25.out) ?_); clear hs; rintro w g6 - hs)) | ((with_reducible refine Se.isL (o := ⟨none, _, _, _, _, _⟩) ?_); (refine Se.toL rfl (Se.sow 0 hs rfl rfl rfl rfl (OSK.out) ((by rw [H32.out]; kernel_rfl)) ((by rw [H32.out, LZ.out])) ?_); clear hs; intro w hs; try simp only [List.cons_append, List.nil_append, List.set_cons_zero] at hs)) | ((with_reducible refine Se.isL (o := ⟨some 17, _, _, _, _, _⟩) ?_); (refine Se.toL rfl (Se.cp (o := ⟨some 17, _, _, _, _, _⟩) 1 hs rfl rfl rfl rfl ((Reads.blk 0 rfl)) Tryz.underlying22 (by kernel_rfl) (OSK.out) (H32.out) ((by rw [LZ2.out]; exact Nat.le_refl _)) ?_); clear hs; intro w hs; try simp only [List.cons_append, List.nil_append, List.set_cons_zero, List.set_cons_succ] at hs)) | (go_at_call 61; refine Calls.mono (sha_st hs H2.out (hk.mono (by intro _ h; simp only [List.mem_cons, h, or_true])) HN.out HKL.out) ?_; clear hs; rintro e w ⟨rfl, hs⟩) | (go_at_call 62; fail))
  rw [E5.out] at hs
  have hs := hs.drop
 rotate_left
 focus
  have hl2 : sk = key.map v8 := by rw [HSK.out]; unfold keyL; rw [if_neg (by omega)]
  have hln : sk.length = n := by rw [hl2, List.length_map, hn]
  have hk2 : Reads L A sk := by rw [hl2]; exact hk
  have Hln := Lib.hid hln
  have hli : (n : Int) ≤ 64 := by omega
  clear hl2 hln hlo hn hm
  go_enter Tryz.func50, Tryz.ntmps50
  go_wp2_with (first | ((with_reducible refine Se.isL (o := ⟨some 4, _, _, _, _, _⟩) ?_); (refine Se.toL rfl (Se.al (o := ⟨some 4, _, _, _, _, _⟩) hs rfl (Z25.out) ?_); clear hs; rintro w g4 - hs)) | ((with_reducible refine Se.isL (o := ⟨some 5, _, _, _, _, _⟩) ?_); (refine Se.toL rfl (Se.al (o := ⟨some 5, _, _, _, _, _⟩) hs rfl (Z32.out) ?_); clear hs; rintro w g5 - hs)) | ((with_reducible refine Se.isL (o := ⟨some 17, _, _, _, _, _⟩) ?_); (refine Se.toL rfl (Se.cp (o := ⟨some 17, _, _, _, _, _⟩) 0 hs rfl rfl rfl rfl ((hk2.mono (by intro _ h; simp only [List.mem_cons, h, or_true]))) Tryz.underlying22 (by kernel_rfl) (OSK.out) (Hln.out) ((by rw [LZ2.out]; exact Nat.le_refl _)) ?_); clear hs; intro w hs; try simp only [List.cons_append, List.nil_append, List.set_cons_zero] at hs)) | (go_at_call 62; fail))
  rw [E5.out] at hs
 all_goals
  refine Calls.mono (hmac1_st hs g5 pk 0x36#8 (by rfl) LPK.out (Reads.blk 0 rfl)) ?_
  clear hs
  rintro e w ⟨r1, A1, c1, rfl, hs⟩
  rw [← HP1.out] at hs
  go_wp2_with (first | ((with_reducible refine Se.isL (o := ⟨some 22, _, _, _, _, _⟩) ?_); (refine Se.toL rfl (Se.ap (o := ⟨some 22, _, _, _, _, _⟩) 0 hs rfl rfl rfl rfl ((hg.mono (by intro _ h; simp only [List.mem_cons, h, or_true]))) Tryz.underlying22 info5' rfl (by decide) ((v8_one _)) ((by rw [List.length_map, HM.out, Nat.mul_one])) ((by have := HML.out; have := HM.out; omega)) ((by have := HML.out; have := HM.out; omega)) ?_); clear hs; rintro w r2 A2 c2 hs; try simp only [List.cons_append, List.nil_append, List.set_cons_zero] at hs)))
  refine Calls.mono (sha_st hs HR1.out (by show Reads _ _ (M1.map v8); rw [HA1.out]; exact Reads.own 0 rfl) HL1.out.symm (by have := HL1.out; have := HML.out; have := HM.out; omega)) ?_
  clear hs; rintro e w ⟨rfl, hs⟩
  go_wp2_with (first | ((with_reducible refine Se.isL (o := ⟨some 8, _, _, _, _, _⟩) ?_); (refine Se.toL rfl (Se.al (o := ⟨some 8, _, _, _, _, _⟩) hs rfl (Z25.out) ?_); clear hs; rintro w g8 - hs)) | ((with_reducible refine Se.isL (o := ⟨none, _, _, _, _, _⟩) ?_); (refine Se.toL rfl (Se.sow 0 hs rfl rfl rfl rfl (OR1.out) ((by rw [LR1.out]; kernel_rfl)) ((by rw [LR1.out, LZ.out])) ?_); clear hs; intro w hs; try simp only [List.cons_append, List.nil_append, List.set_cons_zero] at hs)))
  refine Ch.region' 6 (fun _ => True) (fun | 1 => true | 3 => true | 4 => true | 5 => true | _ => false) (by kernel_rfl) (by decide +kernel) (trivial) ?_
  replace hs := hs.drew
  generalize w.drew = w at hs ⊢
  change Ch.CW _ _ _ _ _ [0, 1, 2, 3, 4, 5] _ _
  iterate 1 (refine Ch.pure (v := ?_) (by rfl) (by rfl) (by rfl) (fun wx hS => ?_) ?_; rotate_left; (focus (go_simp; (first | done | with_reducible rfl))); (try simp only [Act.put, List.setIfInBounds_toArray, List.set_cons_zero, List.set_cons_succ]))
  refine Ch.noise (by rfl) (by rfl) (by rfl) ?_
  refine Se.gcall (f := 62) (args := #[.int .u8 92, .pointer (some ⟨g5, 0, none⟩)]) ?_ ?_
  ·go_simp
  refine Calls.mono (hmac1_st hs g5 pk 0x5c#8 (by rfl) LPK.out (Reads.blk 2 rfl)) ?_
  clear hs
  rintro e w ⟨r3, A3, c3, rfl, hs⟩
  refine ⟨_, rfl, trivial, ?_⟩
  (try simp only [Act.put, List.setIfInBounds_toArray, List.set_cons_zero, List.set_cons_succ])
  rw [← HP2.out] at hs
  refine Ch.pure (v := .slice (some ⟨g8, 0, none⟩) 32 32) (by rfl) (by rfl) (by rfl) (fun wx hS => by go_simp) ?_
  (try simp only [Act.put, List.setIfInBounds_toArray, List.set_cons_zero, List.set_cons_succ])
  refine Ch.noise (by rfl) (by rfl) (by rfl) (Se.ap 0 hs rfl rfl rfl rfl (Reads.blk 1 rfl) Tryz.underlying22 info5' rfl (by decide) OR1.out (by rw [LR1.out]) (by omega) (by omega) ?_)
  clear hs
  rintro w r4 A4 c4 hs
  refine ⟨trivial, ?_⟩
  simp only [List.set_cons_zero] at hs
  (try simp only [Act.put, List.setIfInBounds_toArray, List.set_cons_zero, List.set_cons_succ])
  refine Ch.noise (by rfl) (by rfl) (by rfl) ?_
  refine Se.gcall (f := 61) (args := #[.slice A4 96 c4]) ?_ ?_
  ·go_simp
  refine Calls.mono (sha_st hs HR2.out (by show Reads _ _ (M2.map v8); rw [HA2.out]; exact Reads.own 0 rfl) HL2.out.symm (by rw [HL2.out]; omega)) ?_
  clear hs
  rintro e w ⟨rfl, hs⟩
  refine ⟨_, rfl, trivial, ?_⟩
  (try simp only [Act.put, List.setIfInBounds_toArray, List.set_cons_zero, List.set_cons_succ])
  refine Ch.noise (by rfl) (by rfl) (by rfl) (Se.sow 4 hs rfl rfl rfl rfl OR2.out (by rw [LR2.out]; kernel_rfl) (by rw [LR2.out, LZ.out]) ?_)
  clear hs
  intro w hs
  refine ⟨trivial, ?_⟩
  simp only [List.set_cons_zero, List.set_cons_succ] at hs
  refine Ch.done ?_
  try simp only [List.drop_succ_cons, List.drop_zero]
  go_wp2_with fail
  refine Li.bodyPost_blk (by rfl) (by rfl) (hs.hold (.blk g4 34 R2) (by simp)) Tryz.underlying34 rfl (by rw [LR2.out]; kernel_rfl) rfl ⟨rfl, ?_⟩
  exact hs.drop.drop.drop.drop.drop
end Sha
end Go.Proofs.YtakdoijemopejaaGreat


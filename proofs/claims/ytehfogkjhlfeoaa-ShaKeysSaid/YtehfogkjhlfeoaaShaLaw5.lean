/- The law ShaKeys, walked. -/
import Derived.Test.YtehfogkjhlfeoaaShaLaw2
import Derived.Test.YtehfogkjhlfeoaaOrd
namespace Go.Proofs.Ytehfogkjhlfeoaa
open Go Go.RowKit
open Se Li
namespace Sha
open Bv (n8 n16 n32 n64)
attribute [local irreducible] shaL
attribute [local go_sem ↓] Bv.xor_n8
attribute [local go_sem] Bv.of_n8
theorem padK_zero (key : List (BitVec 8)) (h : key.length ≤ 63) : padK (key ++ [0#8]) = padK key := by
  unfold padK keyL
  rw [if_neg (by simp; omega), if_neg (by omega), List.length_append, List.append_assoc]
  congr 1
  have e : 64 - key.length = (64 - (key.length + [0#8].length)) + 1 := by simp; omega
  rw [e, List.replicate_succ]; rfl
theorem padK_hash (key : List (BitVec 8)) (h : 64 < key.length) : padK (shaL key) = padK key := by
  unfold padK keyL
  rw [if_neg (by rw [shaL_length]; omega), if_pos h]
theorem hmacL_pad {k1 k2 msg : List (BitVec 8)} (h : padK k1 = padK k2) : hmacL k1 msg = hmacL k2 msg := by unfold hmacL; rw [h]
theorem info5s : (Try.prog.info? 5).map (fun i => (i.zero, i.size)) = some (some (.int .u8 0), 1) := by kernel_rfl
theorem fill1 (f : Nat → Value) (v : Value) : (Array.map f (Array.range 1)).setIfInBounds 0 v = #[v] := by
  apply Array.ext
  · simp
  · intro i h1 h2
    have : i = 0 := by simp at h2; omega
    subst this; simp
theorem rep64 : (List.replicate 64 (Value.int .u8 0).cells.toList).flatten = List.replicate 64 (v8 0#8) := by
  rw [show (Value.int .u8 0).cells.toList = [v8 0#8] from rfl]; simp
set_option maxRecDepth 100000 in
set_option maxHeartbeats 8000000 in
theorem keys_any {A B : Option Addr} {n c m d : Nat} {bs ms : List (BitVec 8)} (w0 : World) (hR : Rd w0 A (bs.map v8)) (hn : n = bs.length) (hR2 : Rd w0 B (ms.map v8)) (hm : m = ms.length) :
    Calls Try.prog 5 #[.slice A n c, .slice B m d] w0 fun e w' => e = .returned (.bool true) ∧ Below w0.heap.size w0 w' := by
  have hs : St w0 [] [.rd A (bs.map v8), .rd B (ms.map v8)] w0 := St.start w0 (by simpa [At.holds] using ⟨hR, hR2⟩) rfl
  obtain ⟨HV, hHV⟩ : ∃ R, R = (hmacL bs ms).map v8 := ⟨_, rfl⟩
  have HHV := Lib.hid hHV
  have lH := Lib.hid (show HV.length = 32 by rw [hHV, List.length_map, hmacL_length])
  have oH := Lib.hid (show ∀ v ∈ HV, v.oneCell' = true by rw [hHV]; exact v8_one _)
  have HI := Lib.hid (show ∀ i, i < 32 → ∃ z, HV[i]? = some (.int .u8 z) by rw [hHV]; exact ints32 (hmacL_length _ _))
  obtain ⟨Z, hZ⟩ : ∃ Z, Z = List.replicate 32 (v8 0#8) := ⟨_, rfl⟩
  have z25 := zero25
  rw [← hZ] at z25
  have Z25 := Lib.hid z25
  have lZ := Lib.hid (show Z.length = 32 by rw [hZ]; simp)
  have HN := Lib.hid hn
  have HM := Lib.hid hm
  clear hn hm hHV hR hR2 z25 hZ
  have key : 200 < n ∨ (n ≤ 200 ∧ 200 < m) ∨ (n ≤ 200 ∧ m ≤ 200) := by omega
  rcases key with h | ⟨h1, h⟩ | ⟨h1, h2⟩
  · have hli : (200 : Int) < (n : Int) := by omega
    clear h
    go_enter Try.func5, Try.ntmps5
    go_wp2_with (first | (go_at_call 10; refine Calls.mono (known_st hs) ?_; clear hs; rintro e w ⟨rfl, hs⟩))
    go_ret
    exact ⟨rfl, hs.below⟩
  · have hl1 : (n : Int) ≤ 200 := by omega
    have hli : (200 : Int) < (m : Int) := by omega
    clear h h1
    go_enter Try.func5, Try.ntmps5
    go_wp2_with (first | (go_at_call 10; refine Calls.mono (known_st hs) ?_; clear hs; rintro e w ⟨rfl, hs⟩))
    go_ret
    exact ⟨rfl, hs.below⟩
  · have hl1 : (n : Int) ≤ 200 := by omega
    have hl2 : (m : Int) ≤ 200 := by omega
    have bn := Lib.hid (show bs.length ≤ 549755813888 by have := HN.out; omega)
    have bm := Lib.hid (show ms.length ≤ 274877906944 by have := HM.out; omega)
    go_enter Try.func5, Try.ntmps5
    go_upto_region 4 with (first | ((with_reducible refine Se.isL (o := ⟨some 5, _, _, _, _, _⟩) ?_); (refine Se.toL rfl (Se.al (o := ⟨some 5, _, _, _, _, _⟩) hs rfl Z25.out ?_); clear hs; rintro w g5 - hs)) | ((with_reducible refine Se.isL (o := ⟨none, _, _, _, _, _⟩) ?_); (refine Se.toL rfl (Se.sow 0 hs rfl rfl rfl rfl (oH.out) ((by rw [lH.out]; kernel_rfl)) ((by rw [lH.out, lZ.out])) ?_); clear hs; intro w hs; try simp only [List.set_cons_zero] at hs)) | (go_at_call 15; refine Calls.mono (hmac_r hs HHV.out HN.out HM.out bn.out bm.out (Reads.rd 0 rfl) (Reads.rd 1 rfl)) ?_; clear hs; rintro e w ⟨rfl, hs⟩))
    (try simp only [Act.put, List.setIfInBounds_toArray, List.set_cons_zero, List.set_cons_succ])
    go_cut [35] (fun s35 wx => s35 = .bool false ∧ St w0 [] [.blk g5 25 HV, .rd A (bs.map v8), .rd B (ms.map v8)] wx)
    case first =>
      by_cases h63 : n ≤ 63
      · have hi63 : (n : Int) ≤ 63 := by omega
        have hp := Lib.hid (show HV = (hmacL (bs ++ [0#8]) ms).map v8 by rw [HHV.out, hmacL_pad (padK_zero bs (by have := HN.out; omega))])
        have hl := Lib.hid (show n + 1 = (bs ++ [0#8]).length by rw [List.length_append, HN.out]; rfl)
        have e2 := Lib.hid (show (bs ++ [0#8]).map v8 = bs.map v8 ++ [.int .u8 0] by rw [List.map_append]; rfl)
        refine Or.region 13 (fun wx => Li.Blk wx g5 HV 25) (fun | 5 => true | 6 => true | 7 => true | 9 => true | _ => false) (by kernel_rfl) (by decide +kernel) (hs.drew.hold (.blk g5 25 HV) (by simp)) ?_
        replace hs := hs.drew
        generalize w.drew = w at hs ⊢
        change Or.AW _ _ _ _ _ 13 [0, 1, 2, 3, 4, 5, 6, 7, 8, 9, 10, 11, 12] _ _
        refine Or.pure 0 (v := ?_) (by rfl) (by decide +kernel) (by rfl) (by rfl) (by rfl) (fun wx hS => ?_) ?_; rotate_left; (focus (go_simp; (first | done | with_reducible rfl)))
        (try simp only [Act.put, List.setIfInBounds_toArray, List.set_cons_zero, List.set_cons_succ])
        change Or.AW _ _ _ _ _ 12 [1, 2, 3, 4, 5, 6, 7, 8, 9, 10, 11, 12] _ _
        refine Or.pure 1 (v := ?_) (by rfl) (by decide +kernel) (by rfl) (by rfl) (by rfl) (fun wx hS => ?_) ?_; rotate_left; (focus (go_simp; (first | done | with_reducible rfl)))
        (try simp only [Act.put, List.setIfInBounds_toArray, List.set_cons_zero, List.set_cons_succ])
        change Or.AW _ _ _ _ _ 11 [2, 3, 4, 5, 6, 7, 8, 9, 10, 11, 12] _ _
        refine Or.pure 2 (v := ?_) (by rfl) (by decide +kernel) (by rfl) (by rfl) (by rfl) (fun wx hS => ?_) ?_; rotate_left; (focus (go_simp; (first | done | with_reducible rfl)))
        (try simp only [Act.put, List.setIfInBounds_toArray, List.set_cons_zero, List.set_cons_succ])
        change Or.AW _ _ _ _ _ 10 [3, 4, 5, 6, 7, 8, 9, 10, 11, 12] _ _
        refine Or.pure 3 (v := ?_) (by rfl) (by decide +kernel) (by rfl) (by rfl) (by rfl) (fun wx hS => ?_) ?_; rotate_left; (focus (go_simp; (first | done | with_reducible rfl)))
        (try simp only [Act.put, List.setIfInBounds_toArray, List.set_cons_zero, List.set_cons_succ])
        change Or.AW _ _ _ _ _ 9 [4, 5, 6, 7, 8, 9, 10, 11, 12] _ _
        refine Or.pure 4 (v := ?_) (by rfl) (by decide +kernel) (by rfl) (by rfl) (by rfl) (fun wx hS => ?_) ?_; rotate_left; (focus (go_simp; (first | done | with_reducible rfl)))
        (try simp only [Act.put, List.setIfInBounds_toArray, List.set_cons_zero, List.set_cons_succ])
        change Or.AW _ _ _ _ _ 8 [5, 6, 7, 8, 9, 10, 11, 12] _ _
        refine Or.pure 8 (v := ?_) (by rfl) (by decide +kernel) (by rfl) (by rfl) (by rfl) (fun wx hS => ?_) ?_; rotate_left; (focus (go_simp; (first | done | with_reducible rfl)))
        (try simp only [Act.put, List.setIfInBounds_toArray, List.set_cons_zero, List.set_cons_succ])
        change Or.AW _ _ _ _ _ 7 [5, 6, 7, 9, 10, 11, 12] _ _
        refine Or.pure 10 (v := .agg HV.toArray) (by rfl) (by decide +kernel) (by rfl) (by rfl) (by rfl) (fun wx hS => Se.xla rfl rfl (Rd.of_blk hS) (by rw [lH.out]; kernel_rfl) (by kernel_rfl)) ?_
        (try simp only [Act.put, List.setIfInBounds_toArray, List.set_cons_zero, List.set_cons_succ])
        change Or.AW _ _ _ _ _ 6 [5, 6, 7, 9, 11, 12] _ _
        refine Or.two 5 6 (by decide +kernel) (by decide +kernel) (by rfl) (by rfl) (by rfl) (by rfl) ?_ ?_
        · skip
          refine Se.gcall (f := 11) (args := #[.slice A n c]) ?_ ?_
          · go_simp
          refine Calls.mono (own_st hs (Reads.rd 1 rfl) (v8_one _) (by rw [List.length_map, HN.out]) (by omega)) ?_
          clear hs
          rintro e w ⟨A1, c1, r1, rfl, hs⟩
          refine ⟨_, rfl, hs.hold (.blk g5 25 HV) (by simp), ?_⟩
          (try simp only [Act.put, List.setIfInBounds_toArray, List.set_cons_zero, List.set_cons_succ])
          change Or.AW _ _ _ _ _ 5 [6, 7, 9, 11, 12] _ _
          refine Or.one 6 (by decide +kernel) (by decide +kernel) (by rfl) (by rfl) ?_
          refine Se.bs hs rfl Try.underlying22 info5s (by decide) (by decide) (cs := #[.int .u8 0]) (by simp [Instr.fill, Act.eval, Value.cells]; exact fill1 _ _) ?_
          clear hs
          rintro w g7 - hs
          refine ⟨hs.hold (.blk g5 25 HV) (by simp), ?_⟩
          (try simp only [Act.put, List.setIfInBounds_toArray, List.set_cons_zero, List.set_cons_succ])
          change Or.AW _ _ _ _ _ 4 [7, 9, 11, 12] _ _
          refine Or.one 7 (by decide +kernel) (by decide +kernel) (by rfl) (by rfl) ?_
          refine Se.ap 1 hs rfl rfl rfl rfl (Reads.blk 0 rfl) Try.underlying22 info5' rfl (by decide) (Se.one1 rfl) rfl (by omega) (by omega) ?_
          clear hs
          rintro w r2 A2 c2 hs
          simp only [List.set_cons_zero, List.set_cons_succ] at hs
          refine ⟨hs.hold (.blk g5 25 HV) (by simp), ?_⟩
          (try simp only [Act.put, List.setIfInBounds_toArray, List.set_cons_zero, List.set_cons_succ])
          change Or.AW _ _ _ _ _ 3 [9, 11, 12] _ _
          refine Or.one 9 (by decide +kernel) (by decide +kernel) (by rfl) (by rfl) ?_
          refine Se.gcall (f := 15) (args := #[.slice A2 (n + 1) c2, .slice B m d]) ?_ ?_
          · go_simp
          refine Calls.mono (hmac_r hs hp.out hl.out HM.out (by rw [← hl.out]; omega) bm.out (by rw [e2.out]; exact Reads.own 1 rfl) (Reads.rd 4 rfl)) ?_
          clear hs
          rintro e w ⟨rfl, hs⟩
          refine ⟨_, rfl, hs.hold (.blk g5 25 HV) (by simp), ?_⟩
          (try simp only [Act.put, List.setIfInBounds_toArray, List.set_cons_zero, List.set_cons_succ])
          change Or.AW _ _ _ _ _ 2 [11, 12] _ _
          refine Or.pure 11 (v := .bool false) (by rfl) (by decide +kernel) (by rfl) (by rfl) (by rfl) (fun wx hS => Se.xne rfl rfl rfl Try.underlying25 Try.underlying5 ec5 ei5 em25 HI.out) ?_
          (try simp only [Act.put, List.setIfInBounds_toArray, List.set_cons_zero, List.set_cons_succ])
          change Or.AW _ _ _ _ _ 1 [12] _ _
          refine Or.pure 12 (v := ?_) (by rfl) (by decide +kernel) (by rfl) (by rfl) (by rfl) (fun wx hS => ?_) ?_; rotate_left; (focus (go_simp; (first | done | with_reducible rfl)))
          (try simp only [Act.put, List.setIfInBounds_toArray, List.set_cons_zero, List.set_cons_succ])
          change Or.AW _ _ _ _ _ 0 [] _ _
          refine Or.done ?_
          simp only [List.drop_succ_cons, List.drop_zero]
          go_wp2_with fail
          go_meet
          exact ⟨rfl, hs.drop.drop⟩
        · skip
          refine Se.bs hs rfl Try.underlying22 info5s (by decide) (by decide) (cs := #[.int .u8 0]) (by simp [Instr.fill, Act.eval, Value.cells]; exact fill1 _ _) ?_
          clear hs
          rintro w g7 - hs
          refine ⟨hs.hold (.blk g5 25 HV) (by simp), ?_⟩
          (try simp only [Act.put, List.setIfInBounds_toArray, List.set_cons_zero, List.set_cons_succ])
          change Or.AW _ _ _ _ _ 5 [5, 7, 9, 11, 12] _ _
          refine Or.one 5 (by decide +kernel) (by decide +kernel) (by rfl) (by rfl) ?_
          refine Se.gcall (f := 11) (args := #[.slice A n c]) ?_ ?_
          · go_simp
          refine Calls.mono (own_st hs (Reads.rd 2 rfl) (v8_one _) (by rw [List.length_map, HN.out]) (by omega)) ?_
          clear hs
          rintro e w ⟨A1, c1, r1, rfl, hs⟩
          refine ⟨_, rfl, hs.hold (.blk g5 25 HV) (by simp), ?_⟩
          (try simp only [Act.put, List.setIfInBounds_toArray, List.set_cons_zero, List.set_cons_succ])
          change Or.AW _ _ _ _ _ 4 [7, 9, 11, 12] _ _
          refine Or.one 7 (by decide +kernel) (by decide +kernel) (by rfl) (by rfl) ?_
          refine Se.ap 0 hs rfl rfl rfl rfl (Reads.blk 1 rfl) Try.underlying22 info5' rfl (by decide) (Se.one1 rfl) rfl (by omega) (by omega) ?_
          clear hs
          rintro w r2 A2 c2 hs
          simp only [List.set_cons_zero] at hs
          refine ⟨hs.hold (.blk g5 25 HV) (by simp), ?_⟩
          (try simp only [Act.put, List.setIfInBounds_toArray, List.set_cons_zero, List.set_cons_succ])
          change Or.AW _ _ _ _ _ 3 [9, 11, 12] _ _
          refine Or.one 9 (by decide +kernel) (by decide +kernel) (by rfl) (by rfl) ?_
          refine Se.gcall (f := 15) (args := #[.slice A2 (n + 1) c2, .slice B m d]) ?_ ?_
          · go_simp
          refine Calls.mono (hmac_r hs hp.out hl.out HM.out (by rw [← hl.out]; omega) bm.out (by rw [e2.out]; exact Reads.own 0 rfl) (Reads.rd 4 rfl)) ?_
          clear hs
          rintro e w ⟨rfl, hs⟩
          refine ⟨_, rfl, hs.hold (.blk g5 25 HV) (by simp), ?_⟩
          (try simp only [Act.put, List.setIfInBounds_toArray, List.set_cons_zero, List.set_cons_succ])
          change Or.AW _ _ _ _ _ 2 [11, 12] _ _
          refine Or.pure 11 (v := .bool false) (by rfl) (by decide +kernel) (by rfl) (by rfl) (by rfl) (fun wx hS => Se.xne rfl rfl rfl Try.underlying25 Try.underlying5 ec5 ei5 em25 HI.out) ?_
          (try simp only [Act.put, List.setIfInBounds_toArray, List.set_cons_zero, List.set_cons_succ])
          change Or.AW _ _ _ _ _ 1 [12] _ _
          refine Or.pure 12 (v := ?_) (by rfl) (by decide +kernel) (by rfl) (by rfl) (by rfl) (fun wx hS => ?_) ?_; rotate_left; (focus (go_simp; (first | done | with_reducible rfl)))
          (try simp only [Act.put, List.setIfInBounds_toArray, List.set_cons_zero, List.set_cons_succ])
          change Or.AW _ _ _ _ _ 0 [] _ _
          refine Or.done ?_
          simp only [List.drop_succ_cons, List.drop_zero]
          go_wp2_with fail
          go_meet
          exact ⟨rfl, hs.drop.drop⟩
      · have hi63 : ¬ (n : Int) ≤ 63 := by omega
        have hi63' : decide ((n : Int) ≤ 63) = false := by simpa using hi63
        refine Ch.region' 13 (fun _ => True) (fun  | _ => false) (by kernel_rfl) (by decide +kernel) (trivial) ?_
        replace hs := hs.drew
        generalize w.drew = w at hs ⊢
        change Ch.CW _ _ _ _ _ [0, 1, 2, 3, 4, 5, 6, 7, 8, 9, 10, 11, 12] _ _
        iterate 4 (refine Ch.pure (v := ?_) (by rfl) (by rfl) (by rfl) (fun wx hS => ?_) ?_; rotate_left; (focus (go_simp; (first | done | with_reducible rfl))); (try simp only [Act.put, List.setIfInBounds_toArray, List.set_cons_zero, List.set_cons_succ]))
        iterate 8 (refine Ch.skip (by rfl) (by rfl) ?_; (try simp only [Act.put, List.setIfInBounds_toArray, List.set_cons_zero, List.set_cons_succ]))
        iterate 1 (refine Ch.pure (v := ?_) (by rfl) (by rfl) (by rfl) (fun wx hS => ?_) ?_; rotate_left; (focus (go_simp; (first | done | with_reducible rfl))); (try simp only [Act.put, List.setIfInBounds_toArray, List.set_cons_zero, List.set_cons_succ]))
        refine Ch.done ?_
        simp only [List.drop_succ_cons, List.drop_zero]
        go_wp2_with fail
        go_meet
        exact ⟨rfl, hs⟩
    case rest =>
      clear hs
      rename World => w
      obtain ⟨rfl, hs⟩ := hcut
      by_cases h64 : 64 < n
      · have hli : (64 : Int) < (n : Int) := by omega
        obtain ⟨SK, hSK⟩ : ∃ R, R = (shaL bs).map v8 := ⟨_, rfl⟩
        have HSK := Lib.hid hSK
        have lS := Lib.hid (show SK.length = 32 by rw [hSK, List.length_map, shaL_length])
        have oS := Lib.hid (show ∀ v ∈ SK, v.oneCell' = true by rw [hSK]; exact v8_one _)
        have hp := Lib.hid (show HV = (hmacL (shaL bs) ms).map v8 by rw [HHV.out, hmacL_pad (padK_hash bs (by have := HN.out; omega))])
        clear hSK
        go_wp2_with (first | ((with_reducible refine Se.isL (o := ⟨some 6, _, _, _, _, _⟩) ?_); (refine Se.toL rfl (Se.al (o := ⟨some 6, _, _, _, _, _⟩) hs rfl Z25.out ?_); clear hs; rintro w g6 - hs)) | ((with_reducible refine Se.isL (o := ⟨none, _, _, _, _, _⟩) ?_); (refine Se.toL rfl (Se.sow 0 hs rfl rfl rfl rfl (oS.out) ((by rw [lS.out]; kernel_rfl)) ((by rw [lS.out, lZ.out])) ?_); clear hs; intro w hs; try simp only [List.set_cons_zero] at hs)) | (go_at_call 12; refine Calls.mono (sha_st hs HSK.out (Reads.rd 1 rfl) HN.out bn.out) ?_; clear hs; rintro e w ⟨rfl, hs⟩))
        refine Ch.region' 9 (fun wx => Li.Blk wx g5 HV 25) (fun | 2 => true | 6 => true | _ => false) (by kernel_rfl) (by decide +kernel) (hs.drew.hold (.blk g5 25 HV) (by simp)) ?_
        replace hs := hs.drew
        generalize w.drew = w at hs ⊢
        change Ch.CW _ _ _ _ _ [0, 1, 2, 3, 4, 5, 6, 7, 8] _ _
        refine Ch.pure (v := .slice (some ⟨g6, 0, none⟩) 32 32) (by rfl) (by rfl) (by rfl) (fun wx hS => by go_simp) ?_
        (try simp only [Act.put, List.setIfInBounds_toArray, List.set_cons_zero, List.set_cons_succ])
        iterate 1 (refine Ch.pure (v := ?_) (by rfl) (by rfl) (by rfl) (fun wx hS => ?_) ?_; rotate_left; (focus (go_simp; (first | done | with_reducible rfl))); (try simp only [Act.put, List.setIfInBounds_toArray, List.set_cons_zero, List.set_cons_succ]))
        refine Ch.noise (by rfl) (by rfl) (by rfl) ?_
        refine Se.gcall (f := 15) (args := #[.slice (some ⟨g6, 0, none⟩) 32 32, .slice B m d]) ?_ ?_
        · go_simp
        refine Calls.mono (hmac_r hs hp.out (shaL_length bs).symm HM.out (by rw [shaL_length]; omega) bm.out (by show Reads _ _ ((shaL bs).map v8); rw [← HSK.out]; exact Reads.blk 0 rfl) (Reads.rd 3 rfl)) ?_
        clear hs
        rintro e w ⟨rfl, hs⟩
        refine ⟨_, rfl, hs.hold (.blk g5 25 HV) (by simp), ?_⟩
        (try simp only [Act.put, List.setIfInBounds_toArray, List.set_cons_zero, List.set_cons_succ])
        refine Ch.pure (v := .agg HV.toArray) (by rfl) (by rfl) (by rfl) (fun wx hS => Se.xla rfl rfl (Rd.of_blk hS) (by rw [lH.out]; kernel_rfl) (by kernel_rfl)) ?_
        (try simp only [Act.put, List.setIfInBounds_toArray, List.set_cons_zero, List.set_cons_succ])
        refine Ch.pure (v := .bool true) (by rfl) (by rfl) (by rfl) (fun wx hS => Se.xeq rfl rfl rfl Try.underlying25 Try.underlying5 ec5 ei5 em25 HI.out) ?_
        (try simp only [Act.put, List.setIfInBounds_toArray, List.set_cons_zero, List.set_cons_succ])
        iterate 1 (refine Ch.pure (v := ?_) (by rfl) (by rfl) (by rfl) (fun wx hS => ?_) ?_; rotate_left; (focus (go_simp; (first | done | with_reducible rfl))); (try simp only [Act.put, List.setIfInBounds_toArray, List.set_cons_zero, List.set_cons_succ]))
        refine Ch.noise (by rfl) (by rfl) (by rfl) ?_
        refine Se.gcall (f := 10) (args := #[]) ?_ ?_
        · go_simp
        refine Calls.mono (known_st hs) ?_
        clear hs
        rintro e w ⟨rfl, hs⟩
        refine ⟨_, rfl, hs.hold (.blk g5 25 HV) (by simp), ?_⟩
        (try simp only [Act.put, List.setIfInBounds_toArray, List.set_cons_zero, List.set_cons_succ])
        iterate 2 (refine Ch.pure (v := ?_) (by rfl) (by rfl) (by rfl) (fun wx hS => ?_) ?_; rotate_left; (focus (go_simp; (first | done | with_reducible rfl))); (try simp only [Act.put, List.setIfInBounds_toArray, List.set_cons_zero, List.set_cons_succ]))
        refine Ch.done ?_
        simp only [List.drop_succ_cons, List.drop_zero]
        go_wp2_with fail
        go_ret
        exact ⟨rfl, hs.below⟩
      · have hli : (n : Int) ≤ 64 := by omega
        go_upto_region 9 with (fail)
        go_cut [7, 8] (fun s7 s8 wx => ∃ g7 g8 : Nat, s7 = .slice (some ⟨g7, 0, none⟩) 64 64 ∧ s8 = .slice (some ⟨g8, 0, none⟩) 64 64 ∧ St w0 [] [.blk g7 5 (List.replicate 64 (v8 0#8)), .blk g8 5 (List.replicate 64 (v8 0#8)), .blk g5 25 HV, .rd A (bs.map v8), .rd B (ms.map v8)] wx)
        case first =>
          refine Or.region 4 (fun _ => True) (fun | 0 => true | 1 => true | _ => false) (by kernel_rfl) (by decide +kernel) (trivial) ?_
          replace hs := hs.drew
          generalize w.drew = w at hs ⊢
          change Or.AW _ _ _ _ _ 4 [0, 1, 2, 3] _ _
          refine Or.two 0 1 (by decide +kernel) (by decide +kernel) (by rfl) (by rfl) (by rfl) (by rfl) ?_ ?_
          · skip
            refine Se.mk hs rfl Try.underlying22 info5' rfl 64 64 rfl rfl rfl rfl (by omega) (by omega) (by omega) ?_
            clear hs; rintro w g7 - hs
            rw [rep64] at hs
            refine ⟨trivial, ?_⟩
            (try simp only [Act.put, List.setIfInBounds_toArray, List.set_cons_zero, List.set_cons_succ])
            change Or.AW _ _ _ _ _ 3 [1, 2, 3] _ _
            refine Or.pure 2 (v := ?_) (by rfl) (by decide +kernel) (by rfl) (by rfl) (by rfl) (fun wx hS => ?_) ?_; rotate_left; (focus (go_simp; (first | done | with_reducible rfl)))
            (try simp only [Act.put, List.setIfInBounds_toArray, List.set_cons_zero, List.set_cons_succ])
            change Or.AW _ _ _ _ _ 2 [1, 3] _ _
            refine Or.one 1 (by decide +kernel) (by decide +kernel) (by rfl) (by rfl) ?_
            refine Se.mk hs rfl Try.underlying22 info5' rfl 64 64 rfl rfl rfl rfl (by omega) (by omega) (by omega) ?_
            clear hs; rintro w g8 - hs
            rw [rep64] at hs
            refine ⟨trivial, ?_⟩
            (try simp only [Act.put, List.setIfInBounds_toArray, List.set_cons_zero, List.set_cons_succ])
            change Or.AW _ _ _ _ _ 1 [3] _ _
            refine Or.pure 3 (v := ?_) (by rfl) (by decide +kernel) (by rfl) (by rfl) (by rfl) (fun wx hS => ?_) ?_; rotate_left; (focus (go_simp; (first | done | with_reducible rfl)))
            (try simp only [Act.put, List.setIfInBounds_toArray, List.set_cons_zero, List.set_cons_succ])
            change Or.AW _ _ _ _ _ 0 [] _ _
            refine Or.done ?_
            simp only [List.drop_succ_cons, List.drop_zero]
            go_wp2_with fail
            go_meet
            exact ⟨g7, g8, rfl, rfl, hs.pull 1 rfl⟩
          · skip
            refine Se.mk hs rfl Try.underlying22 info5' rfl 64 64 rfl rfl rfl rfl (by omega) (by omega) (by omega) ?_
            clear hs; rintro w g8 - hs
            rw [rep64] at hs
            refine ⟨trivial, ?_⟩
            (try simp only [Act.put, List.setIfInBounds_toArray, List.set_cons_zero, List.set_cons_succ])
            change Or.AW _ _ _ _ _ 3 [0, 2, 3] _ _
            refine Or.one 0 (by decide +kernel) (by decide +kernel) (by rfl) (by rfl) ?_
            refine Se.mk hs rfl Try.underlying22 info5' rfl 64 64 rfl rfl rfl rfl (by omega) (by omega) (by omega) ?_
            clear hs; rintro w g7 - hs
            rw [rep64] at hs
            refine ⟨trivial, ?_⟩
            (try simp only [Act.put, List.setIfInBounds_toArray, List.set_cons_zero, List.set_cons_succ])
            change Or.AW _ _ _ _ _ 2 [2, 3] _ _
            refine Or.pure 2 (v := ?_) (by rfl) (by decide +kernel) (by rfl) (by rfl) (by rfl) (fun wx hS => ?_) ?_; rotate_left; (focus (go_simp; (first | done | with_reducible rfl)))
            (try simp only [Act.put, List.setIfInBounds_toArray, List.set_cons_zero, List.set_cons_succ])
            change Or.AW _ _ _ _ _ 1 [3] _ _
            refine Or.pure 3 (v := ?_) (by rfl) (by decide +kernel) (by rfl) (by rfl) (by rfl) (fun wx hS => ?_) ?_; rotate_left; (focus (go_simp; (first | done | with_reducible rfl)))
            (try simp only [Act.put, List.setIfInBounds_toArray, List.set_cons_zero, List.set_cons_succ])
            change Or.AW _ _ _ _ _ 0 [] _ _
            refine Or.done ?_
            simp only [List.drop_succ_cons, List.drop_zero]
            go_wp2_with fail
            go_meet
            exact ⟨g7, g8, rfl, rfl, hs⟩
        case rest =>
          clear hs
          rename World => w
          obtain ⟨g7, g8, rfl, rfl, hs⟩ := hcut
          obtain ⟨pk, hpk⟩ : ∃ pk, pk = padK bs := ⟨_, rfl⟩
          have lpk : pk.length = 64 := by rw [hpk]; exact padK_length bs
          have e5 := padK_cells bs (Z := List.replicate 64 (v8 0#8)) (ys := bs.map v8) rfl (by unfold keyL; rw [if_neg (by have := HN.out; omega)])
          rw [← hpk] at e5
          obtain ⟨p1, hp1⟩ : ∃ p1, p1 = pk.map (· ^^^ 0x36#8) := ⟨_, rfl⟩
          obtain ⟨p2, hp2⟩ : ∃ p2, p2 = pk.map (· ^^^ 0x5c#8) := ⟨_, rfl⟩
          obtain ⟨M1, hM1⟩ : ∃ M1, M1 = p1 ++ ms := ⟨_, rfl⟩
          obtain ⟨R1, hR1⟩ : ∃ R1, R1 = (shaL M1).map v8 := ⟨_, rfl⟩
          obtain ⟨M2, hM2⟩ : ∃ M2, M2 = p2 ++ shaL M1 := ⟨_, rfl⟩
          have hH2 : HV = (shaL M2).map v8 := by rw [HHV.out, hM2, hM1, hp1, hp2, hpk]; rfl
          have l1 : M1.length = 64 + m := by rw [hM1, List.length_append, hp1, List.length_map, lpk, HM.out]
          have l2 : M2.length = 96 := by rw [hM2, List.length_append, hp2, List.length_map, lpk, shaL_length]
          have a1 : M1.map v8 = p1.map v8 ++ ms.map v8 := by rw [hM1, List.map_append]
          have a2 : M2.map v8 = p2.map v8 ++ R1 := by rw [hM2, List.map_append, hR1]
          have lR1 : R1.length = 32 := by rw [hR1, List.length_map, shaL_length]
          have x1 : mixN 0x36#8 pk 64 = p1 := by
            unfold mixN
            rw [List.take_of_length_le (by omega), List.drop_eq_nil_of_le (by omega), List.append_nil, hp1]
          have x2 : mixN 0x5c#8 pk 64 = p2 := by
            unfold mixN
            rw [List.take_of_length_le (by omega), List.drop_eq_nil_of_le (by omega), List.append_nil, hp2]
          have lp1 : p1.length = 64 := by rw [hp1, List.length_map, lpk]
          have lp2 : p2.length = 64 := by rw [hp2, List.length_map, lpk]
          have E5 := Lib.hid e5
          have LPK := Lib.hid lpk
          have HH2 := Lib.hid hH2
          have HR1 := Lib.hid hR1
          have HL1 := Lib.hid l1
          have HL2 := Lib.hid l2
          have HA1 := Lib.hid a1
          have HA2 := Lib.hid a2
          have LR1 := Lib.hid lR1
          have OR1 := Lib.hid (show ∀ v ∈ R1, v.oneCell' = true by rw [hR1]; exact v8_one _)
          have X1 := Lib.hid x1
          have X2 := Lib.hid x2
          have LP1 := Lib.hid lp1
          have LP2 := Lib.hid lp2
          clear hpk lpk e5 hp1 hp2 hM1 hR1 hM2 hH2 l1 l2 a1 a2 lR1 x1 x2 lp1 lp2
          go_wp2_with (first | ((with_reducible refine Se.isL (o := ⟨some 53, _, _, _, _, _⟩) ?_); (refine Se.toL rfl (Se.cp (o := ⟨some 53, _, _, _, _, _⟩) 0 hs rfl rfl rfl rfl ((Reads.rd 3 rfl)) Try.underlying22 (by kernel_rfl) ((v8_one _)) ((by rw [List.length_map, HN.out])) ((by simp)) ?_); clear hs; intro w hs; try simp only [List.set_cons_zero] at hs)) | ((with_reducible refine Se.isL (o := ⟨some 56, _, _, _, _, _⟩) ?_); (refine Se.toL rfl (Se.cp (o := ⟨some 56, _, _, _, _, _⟩) 1 hs rfl rfl rfl rfl ((Reads.rd 3 rfl)) Try.underlying22 (by kernel_rfl) ((v8_one _)) ((by rw [List.length_map, HN.out])) ((by simp)) ?_); clear hs; intro w hs; try simp only [List.set_cons_zero, List.set_cons_succ] at hs)))
          rw [E5.out] at hs
          go_loopg [9] 64 (fun gh s9 wr => ∃ i : Nat, gh = 64 - i ∧ i ≤ 64 ∧ s9 = .int .i64 i ∧ St w0 [] [.blk g7 5 ((mixN 0x36#8 pk i).map v8), .blk g8 5 ((mixN 0x5c#8 pk i).map v8), .blk g5 25 HV, .rd A (bs.map v8), .rd B (ms.map v8)] wr)
          case atStart => exact ⟨0, rfl, by omega, rfl, by simpa [mixN] using hs⟩
          case round =>
            clear hs
            rename World => w
            obtain ⟨i, rfl, hi, rfl, hs⟩ := hrel
            by_cases hlt : i < 64
            · have hki : (i : Int) < 64 := by omega
              have f1 := Lib.hid (mixN_get 0x36#8 pk i (by rw [LPK.out]; exact hlt))
              have f2 := Lib.hid (mixN_get 0x5c#8 pk i (by rw [LPK.out]; exact hlt))
              have t1 := Lib.hid (mixN_set 0x36#8 pk i (by rw [LPK.out]; exact hlt))
              have t2 := Lib.hid (mixN_set 0x5c#8 pk i (by rw [LPK.out]; exact hlt))
              have q1 := Lib.hid (show i < ((mixN 0x36#8 pk i).map v8).length by rw [List.length_map, mixN_length, LPK.out]; exact hlt)
              have q2 := Lib.hid (show i < ((mixN 0x5c#8 pk i).map v8).length by rw [List.length_map, mixN_length, LPK.out]; exact hlt)
              obtain ⟨y, hy⟩ : ∃ y, y = pk.getD i 0 := ⟨_, rfl⟩
              rw [← hy] at f1 f2 t1 t2
              clear hy
              go_wp2_with fail
              refine Or.region 18 (fun _ => True) (fun | 7 => true | 12 => true | 15 => true | 17 => true | _ => false) (by kernel_rfl) (by decide +kernel) (trivial) ?_
              replace hs := hs.drew
              generalize w.drew = w at hs ⊢
              change Or.AW _ _ _ _ _ 18 [0, 1, 2, 3, 4, 5, 6, 7, 8, 9, 10, 11, 12, 13, 14, 15, 16, 17] _ _
              refine Or.pure 0 (v := ?_) (by rfl) (by decide +kernel) (by rfl) (by rfl) (by rfl) (fun wx hS => ?_) ?_; rotate_left; (focus (go_simp; (first | done | with_reducible rfl)))
              (try simp only [Act.put, List.setIfInBounds_toArray, List.set_cons_zero, List.set_cons_succ])
              change Or.AW _ _ _ _ _ 17 [1, 2, 3, 4, 5, 6, 7, 8, 9, 10, 11, 12, 13, 14, 15, 16, 17] _ _
              refine Or.pure 1 (v := ?_) (by rfl) (by decide +kernel) (by rfl) (by rfl) (by rfl) (fun wx hS => ?_) ?_; rotate_left; (focus (go_simp; (first | done | with_reducible rfl)))
              (try simp only [Act.put, List.setIfInBounds_toArray, List.set_cons_zero, List.set_cons_succ])
              change Or.AW _ _ _ _ _ 16 [2, 3, 4, 5, 6, 7, 8, 9, 10, 11, 12, 13, 14, 15, 16, 17] _ _
              refine Or.pure 2 (v := ?_) (by rfl) (by decide +kernel) (by rfl) (by rfl) (by rfl) (fun wx hS => ?_) ?_; rotate_left; (focus (go_simp; (first | done | with_reducible rfl)))
              (try simp only [Act.put, List.setIfInBounds_toArray, List.set_cons_zero, List.set_cons_succ])
              change Or.AW _ _ _ _ _ 15 [3, 4, 5, 6, 7, 8, 9, 10, 11, 12, 13, 14, 15, 16, 17] _ _
              refine Or.pure 3 (v := ?_) (by rfl) (by decide +kernel) (by rfl) (by rfl) (by rfl) (fun wx hS => ?_) ?_; rotate_left; (focus (go_simp; (first | done | with_reducible rfl)))
              (try simp only [Act.put, List.setIfInBounds_toArray, List.set_cons_zero, List.set_cons_succ])
              change Or.AW _ _ _ _ _ 14 [4, 5, 6, 7, 8, 9, 10, 11, 12, 13, 14, 15, 16, 17] _ _
              refine Or.pure 4 (v := ?_) (by rfl) (by decide +kernel) (by rfl) (by rfl) (by rfl) (fun wx hS => ?_) ?_; rotate_left; (focus (go_simp; (first | done | with_reducible rfl)))
              (try simp only [Act.put, List.setIfInBounds_toArray, List.set_cons_zero, List.set_cons_succ])
              change Or.AW _ _ _ _ _ 13 [5, 6, 7, 8, 9, 10, 11, 12, 13, 14, 15, 16, 17] _ _
              refine Or.pure 5 (v := ?_) (by rfl) (by decide +kernel) (by rfl) (by rfl) (by rfl) (fun wx hS => ?_) ?_; rotate_left; (focus (go_simp; (first | done | with_reducible rfl)))
              (try simp only [Act.put, List.setIfInBounds_toArray, List.set_cons_zero, List.set_cons_succ])
              change Or.AW _ _ _ _ _ 12 [6, 7, 8, 9, 10, 11, 12, 13, 14, 15, 16, 17] _ _
              refine Or.pure 6 (v := ?_) (by rfl) (by decide +kernel) (by rfl) (by rfl) (by rfl) (fun wx hS => ?_) ?_; rotate_left; (focus (go_simp; (first | done | with_reducible rfl)))
              (try simp only [Act.put, List.setIfInBounds_toArray, List.set_cons_zero, List.set_cons_succ])
              change Or.AW _ _ _ _ _ 11 [7, 8, 9, 10, 11, 12, 13, 14, 15, 16, 17] _ _
              refine Or.pure 9 (v := ?_) (by rfl) (by decide +kernel) (by rfl) (by rfl) (by rfl) (fun wx hS => ?_) ?_; rotate_left; (focus (go_simp; (first | done | with_reducible rfl)))
              (try simp only [Act.put, List.setIfInBounds_toArray, List.set_cons_zero, List.set_cons_succ])
              change Or.AW _ _ _ _ _ 10 [7, 8, 10, 11, 12, 13, 14, 15, 16, 17] _ _
              refine Or.pure 10 (v := ?_) (by rfl) (by decide +kernel) (by rfl) (by rfl) (by rfl) (fun wx hS => ?_) ?_; rotate_left; (focus (go_simp; (first | done | with_reducible rfl)))
              (try simp only [Act.put, List.setIfInBounds_toArray, List.set_cons_zero, List.set_cons_succ])
              change Or.AW _ _ _ _ _ 9 [7, 8, 11, 12, 13, 14, 15, 16, 17] _ _
              refine Or.pure 11 (v := ?_) (by rfl) (by decide +kernel) (by rfl) (by rfl) (by rfl) (fun wx hS => ?_) ?_; rotate_left; (focus (go_simp; (first | done | with_reducible rfl)))
              (try simp only [Act.put, List.setIfInBounds_toArray, List.set_cons_zero, List.set_cons_succ])
              change Or.AW _ _ _ _ _ 8 [7, 8, 12, 13, 14, 15, 16, 17] _ _
              refine Or.two 7 12 (by decide +kernel) (by decide +kernel) (by rfl) (by rfl) (by rfl) (by rfl) ?_ ?_
              · skip
                refine Se.ld hs rfl rfl (Cell.blk 0 rfl f1.out) (by kernel_rfl) ?_
                refine ⟨trivial, ?_⟩
                (try simp only [Act.put, List.setIfInBounds_toArray, List.set_cons_zero, List.set_cons_succ])
                change Or.AW _ _ _ _ _ 7 [8, 12, 13, 14, 15, 16, 17] _ _
                refine Or.pure 8 (v := ?_) (by rfl) (by decide +kernel) (by rfl) (by rfl) (by rfl) (fun wx hS => ?_) ?_; rotate_left; (focus (go_simp; (first | done | with_reducible rfl)))
                (try simp only [Act.put, List.setIfInBounds_toArray, List.set_cons_zero, List.set_cons_succ])
                change Or.AW _ _ _ _ _ 6 [12, 13, 14, 15, 16, 17] _ _
                refine Or.one 12 (by decide +kernel) (by decide +kernel) (by rfl) (by rfl) ?_
                refine Se.ld hs rfl rfl (Cell.blk 1 rfl f2.out) (by kernel_rfl) ?_
                refine ⟨trivial, ?_⟩
                (try simp only [Act.put, List.setIfInBounds_toArray, List.set_cons_zero, List.set_cons_succ])
                change Or.AW _ _ _ _ _ 5 [13, 14, 15, 16, 17] _ _
                refine Or.pure 13 (v := ?_) (by rfl) (by decide +kernel) (by rfl) (by rfl) (by rfl) (fun wx hS => ?_) ?_; rotate_left; (focus (go_simp; (first | done | with_reducible rfl)))
                (try simp only [Act.put, List.setIfInBounds_toArray, List.set_cons_zero, List.set_cons_succ])
                change Or.AW _ _ _ _ _ 4 [14, 15, 16, 17] _ _
                refine Or.pure 14 (v := ?_) (by rfl) (by decide +kernel) (by rfl) (by rfl) (by rfl) (fun wx hS => ?_) ?_; rotate_left; (focus (go_simp; (first | done | with_reducible rfl)))
                (try simp only [Act.put, List.setIfInBounds_toArray, List.set_cons_zero, List.set_cons_succ])
                change Or.AW _ _ _ _ _ 3 [15, 16, 17] _ _
                refine Or.one 15 (by decide +kernel) (by decide +kernel) (by rfl) (by rfl) ?_
                refine Se.so 0 (v := .int _ _) hs rfl rfl rfl rfl rfl (by kernel_rfl) q1.out ?_
                clear hs
                intro w hs
                simp only [List.set_cons_zero] at hs
                refine ⟨trivial, ?_⟩
                (try simp only [Act.put])
                change Or.AW _ _ _ _ _ 2 [16, 17] _ _
                refine Or.pure 16 (v := ?_) (by rfl) (by decide +kernel) (by rfl) (by rfl) (by rfl) (fun wx hS => ?_) ?_; rotate_left; (focus (go_simp; (first | done | with_reducible rfl)))
                (try simp only [Act.put, List.setIfInBounds_toArray, List.set_cons_zero, List.set_cons_succ])
                change Or.AW _ _ _ _ _ 1 [17] _ _
                refine Or.one 17 (by decide +kernel) (by decide +kernel) (by rfl) (by rfl) ?_
                refine Se.so 1 (v := .int _ _) hs rfl rfl rfl rfl rfl (by kernel_rfl) q2.out ?_
                clear hs
                intro w hs
                simp only [List.set_cons_zero, List.set_cons_succ] at hs
                refine ⟨trivial, ?_⟩
                (try simp only [Act.put])
                change Or.AW _ _ _ _ _ 0 [] _ _
                refine Or.done ?_
                simp only [List.drop_succ_cons, List.drop_zero]
                rw [t1.out, t2.out] at hs
                go_wp2_with fail
                go_roundg (64 - (i + 1))
                case measure => omega
                case rel => exact ⟨i + 1, rfl, by omega, by go_num, hs⟩
              · skip
                refine Se.ld hs rfl rfl (Cell.blk 1 rfl f2.out) (by kernel_rfl) ?_
                refine ⟨trivial, ?_⟩
                (try simp only [Act.put, List.setIfInBounds_toArray, List.set_cons_zero, List.set_cons_succ])
                change Or.AW _ _ _ _ _ 7 [7, 8, 13, 14, 15, 16, 17] _ _
                refine Or.pure 13 (v := ?_) (by rfl) (by decide +kernel) (by rfl) (by rfl) (by rfl) (fun wx hS => ?_) ?_; rotate_left; (focus (go_simp; (first | done | with_reducible rfl)))
                (try simp only [Act.put, List.setIfInBounds_toArray, List.set_cons_zero, List.set_cons_succ])
                change Or.AW _ _ _ _ _ 6 [7, 8, 14, 15, 16, 17] _ _
                refine Or.one 7 (by decide +kernel) (by decide +kernel) (by rfl) (by rfl) ?_
                refine Se.ld hs rfl rfl (Cell.blk 0 rfl f1.out) (by kernel_rfl) ?_
                refine ⟨trivial, ?_⟩
                (try simp only [Act.put, List.setIfInBounds_toArray, List.set_cons_zero, List.set_cons_succ])
                change Or.AW _ _ _ _ _ 5 [8, 14, 15, 16, 17] _ _
                refine Or.pure 8 (v := ?_) (by rfl) (by decide +kernel) (by rfl) (by rfl) (by rfl) (fun wx hS => ?_) ?_; rotate_left; (focus (go_simp; (first | done | with_reducible rfl)))
                (try simp only [Act.put, List.setIfInBounds_toArray, List.set_cons_zero, List.set_cons_succ])
                change Or.AW _ _ _ _ _ 4 [14, 15, 16, 17] _ _
                refine Or.pure 14 (v := ?_) (by rfl) (by decide +kernel) (by rfl) (by rfl) (by rfl) (fun wx hS => ?_) ?_; rotate_left; (focus (go_simp; (first | done | with_reducible rfl)))
                (try simp only [Act.put, List.setIfInBounds_toArray, List.set_cons_zero, List.set_cons_succ])
                change Or.AW _ _ _ _ _ 3 [15, 16, 17] _ _
                refine Or.one 15 (by decide +kernel) (by decide +kernel) (by rfl) (by rfl) ?_
                refine Se.so 0 (v := .int _ _) hs rfl rfl rfl rfl rfl (by kernel_rfl) q1.out ?_
                clear hs
                intro w hs
                simp only [List.set_cons_zero] at hs
                refine ⟨trivial, ?_⟩
                (try simp only [Act.put])
                change Or.AW _ _ _ _ _ 2 [16, 17] _ _
                refine Or.pure 16 (v := ?_) (by rfl) (by decide +kernel) (by rfl) (by rfl) (by rfl) (fun wx hS => ?_) ?_; rotate_left; (focus (go_simp; (first | done | with_reducible rfl)))
                (try simp only [Act.put, List.setIfInBounds_toArray, List.set_cons_zero, List.set_cons_succ])
                change Or.AW _ _ _ _ _ 1 [17] _ _
                refine Or.one 17 (by decide +kernel) (by decide +kernel) (by rfl) (by rfl) ?_
                refine Se.so 1 (v := .int _ _) hs rfl rfl rfl rfl rfl (by kernel_rfl) q2.out ?_
                clear hs
                intro w hs
                simp only [List.set_cons_zero, List.set_cons_succ] at hs
                refine ⟨trivial, ?_⟩
                (try simp only [Act.put])
                change Or.AW _ _ _ _ _ 0 [] _ _
                refine Or.done ?_
                simp only [List.drop_succ_cons, List.drop_zero]
                rw [t1.out, t2.out] at hs
                go_wp2_with fail
                go_roundg (64 - (i + 1))
                case measure => omega
                case rel => exact ⟨i + 1, rfl, by omega, by go_num, hs⟩
            · have ei : i = 64 := by omega
              subst ei
              rw [X1.out, X2.out] at hs
              replace hs := hs.blk_own 1 64 64 (by rw [List.length_map, LP1.out]; omega) (Nat.le_refl _) (by unfold maxLen; omega)
              replace hs := (hs.pull 1 rfl).blk_own 1 64 64 (by rw [List.length_map, LP2.out]; omega) (Nat.le_refl _) (by unfold maxLen; omega)
              simp only [List.eraseIdx_cons_succ, List.eraseIdx_cons_zero] at hs
              rw [List.take_of_length_le (by rw [List.length_map, LP2.out]; omega), List.take_of_length_le (by rw [List.length_map, LP1.out]; omega)] at hs
              go_wp2_with (first | ((with_reducible refine Se.isL (o := ⟨some 79, _, _, _, _, _⟩) ?_); (refine Se.toL rfl (Se.ap (o := ⟨some 79, _, _, _, _, _⟩) 1 hs rfl rfl rfl rfl ((Reads.rd 4 rfl)) Try.underlying22 info5' rfl (by decide) ((v8_one _)) ((by rw [List.length_map, HM.out, Nat.mul_one])) ((by omega)) ((by omega)) ?_); clear hs; rintro w r1 A1 c1 hs; try simp only [List.set_cons_zero, List.set_cons_succ] at hs)) | (go_at_call 12; fail))
              rw [← HA1.out] at hs
              refine Calls.mono (sha_st hs HR1.out (Reads.own 1 rfl) HL1.out.symm (by rw [HL1.out]; omega)) ?_
              clear hs; rintro e w ⟨rfl, hs⟩
              go_wp2_with (first | ((with_reducible refine Se.isL (o := ⟨some 10, _, _, _, _, _⟩) ?_); (refine Se.toL rfl (Se.al (o := ⟨some 10, _, _, _, _, _⟩) hs rfl Z25.out ?_); clear hs; rintro w g10 - hs)) | ((with_reducible refine Se.isL (o := ⟨none, _, _, _, _, _⟩) ?_); (refine Se.toL rfl (Se.sow 0 hs rfl rfl rfl rfl (OR1.out) ((by rw [LR1.out]; kernel_rfl)) ((by rw [LR1.out, lZ.out])) ?_); clear hs; intro w hs; try simp only [List.set_cons_zero] at hs)))
              refine Ch.region' 10 (fun wx => Li.Blk wx g5 HV 25) (fun | 2 => true | 3 => true | 7 => true | _ => false) (by kernel_rfl) (by decide +kernel) (hs.drew.hold (.blk g5 25 HV) (by simp)) ?_
              replace hs := hs.drew
              generalize w.drew = w at hs ⊢
              change Ch.CW _ _ _ _ _ [0, 1, 2, 3, 4, 5, 6, 7, 8, 9] _ _
              iterate 1 (refine Ch.pure (v := ?_) (by rfl) (by rfl) (by rfl) (fun wx hS => ?_) ?_; rotate_left; (focus (go_simp; (first | done | with_reducible rfl))); (try simp only [Act.put, List.setIfInBounds_toArray, List.set_cons_zero, List.set_cons_succ]))
              refine Ch.pure (v := .slice (some ⟨g10, 0, none⟩) 32 32) (by rfl) (by rfl) (by rfl) (fun wx hS => by go_simp) ?_
              (try simp only [Act.put, List.setIfInBounds_toArray, List.set_cons_zero, List.set_cons_succ])
              refine Ch.noise (by rfl) (by rfl) (by rfl) (Se.ap 1 hs rfl rfl rfl rfl (Reads.blk 0 rfl) Try.underlying22 info5' rfl (by decide) OR1.out (by rw [LR1.out]) (by omega) (by omega) ?_)
              clear hs
              rintro w r4 A4 c4 hs
              simp only [List.set_cons_zero, List.set_cons_succ] at hs
              rw [← HA2.out] at hs
              refine ⟨hs.hold (.blk g5 25 HV) (by simp), ?_⟩
              (try simp only [Act.put, List.setIfInBounds_toArray, List.set_cons_zero, List.set_cons_succ])
              refine Ch.noise (by rfl) (by rfl) (by rfl) ?_
              refine Se.gcall (f := 12) (args := #[.slice A4 96 c4]) ?_ ?_
              · go_simp
              refine Calls.mono (sha_st hs HH2.out (Reads.own 1 rfl) HL2.out.symm (by rw [HL2.out]; omega)) ?_
              clear hs
              rintro e w ⟨rfl, hs⟩
              refine ⟨_, rfl, hs.hold (.blk g5 25 HV) (by simp), ?_⟩
              (try simp only [Act.put, List.setIfInBounds_toArray, List.set_cons_zero, List.set_cons_succ])
              refine Ch.pure (v := .agg HV.toArray) (by rfl) (by rfl) (by rfl) (fun wx hS => Se.xla rfl rfl (Rd.of_blk hS) (by rw [lH.out]; kernel_rfl) (by kernel_rfl)) ?_
              (try simp only [Act.put, List.setIfInBounds_toArray, List.set_cons_zero, List.set_cons_succ])
              refine Ch.pure (v := .bool true) (by rfl) (by rfl) (by rfl) (fun wx hS => Se.xeq rfl rfl rfl Try.underlying25 Try.underlying5 ec5 ei5 em25 HI.out) ?_
              (try simp only [Act.put, List.setIfInBounds_toArray, List.set_cons_zero, List.set_cons_succ])
              iterate 1 (refine Ch.pure (v := ?_) (by rfl) (by rfl) (by rfl) (fun wx hS => ?_) ?_; rotate_left; (focus (go_simp; (first | done | with_reducible rfl))); (try simp only [Act.put, List.setIfInBounds_toArray, List.set_cons_zero, List.set_cons_succ]))
              refine Ch.noise (by rfl) (by rfl) (by rfl) ?_
              refine Se.gcall (f := 10) (args := #[]) ?_ ?_
              · go_simp
              refine Calls.mono (known_st hs) ?_
              clear hs
              rintro e w ⟨rfl, hs⟩
              refine ⟨_, rfl, hs.hold (.blk g5 25 HV) (by simp), ?_⟩
              (try simp only [Act.put, List.setIfInBounds_toArray, List.set_cons_zero, List.set_cons_succ])
              iterate 2 (refine Ch.pure (v := ?_) (by rfl) (by rfl) (by rfl) (fun wx hS => ?_) ?_; rotate_left; (focus (go_simp; (first | done | with_reducible rfl))); (try simp only [Act.put, List.setIfInBounds_toArray, List.set_cons_zero, List.set_cons_succ]))
              refine Ch.done ?_
              simp only [List.drop_succ_cons, List.drop_zero]
              go_wp2_with fail
              go_ret
              exact ⟨rfl, hs.below⟩
end Sha
end Go.Proofs.Ytehfogkjhlfeoaa

/- Walks of sha.Step and of the reference's Step. -/
import Derived.Test.YtehfogkjhlfeoaaShaStep
import Derived.Test.YtehfogkjhlfeoaaShaConst
import Derived.Test.YtehfogkjhlfeoaaShaRef
import Derived.Test.YtehfogkjhlfeoaaShaK
namespace Go.Proofs.Ytehfogkjhlfeoaa
open Go.RowKit
namespace Sha
open Bv (n8 n16 n32 n64)
theorem K64_length : K64.length = 64 := by decide +kernel
theorem H8_length : H8.length = 8 := by decide +kernel
theorem stepL_length (ks s : List (BitVec 32)) (bs : List (BitVec 8)) (hs : s.length = 8) : (stepL ks s bs).length = 8 := by
  have hr : ∀ k, (rnds ks (sched bs 64) s k).length = 8 := by
    intro k
    induction k with
    | zero => simpa [rnds] using hs
    | succ k ih =>
      rw [rnds]
      match hh : rnds ks (sched bs 64) s k, ih with
      | [a, b, c, d, e, f, g, h], _ => rfl
  unfold stepL; rw [List.length_zipWith, hr, hs]; rfl
attribute [local irreducible] K64 H8 stepL
set_option maxHeartbeats 1000000 in
theorem step_any (s : List (BitVec 32)) (bs : List (BitVec 8)) (hs : s.length = 8) (hbs : bs.length = 64) (w : World) :
    Calls Try.prog 19 #[.agg (s.map v32).toArray, .agg (bs.map v8).toArray] w fun e w' => e = .returned (.agg ((stepL K64 s bs).map v32).toArray) ∧ Below w.heap.size w w' := by
  obtain ⟨n, hn⟩ : ∃ n, n = w.heap.size := ⟨_, rfl⟩
  obtain ⟨K, hK⟩ : ∃ K, K = K64.map v32 := ⟨_, rfl⟩
  obtain ⟨H, hH⟩ : ∃ H, H = H8.map v32 := ⟨_, rfl⟩
  obtain ⟨S, hS⟩ : ∃ S, S = s.map v32 := ⟨_, rfl⟩
  obtain ⟨B, hB⟩ : ∃ B, B = bs.map v8 := ⟨_, rfl⟩
  obtain ⟨R, hR⟩ : ∃ R, R = (stepL K64 s bs).map v32 := ⟨_, rfl⟩
  have C := Lib.hid (fun wx => constants_any wx)
  have T := Lib.hid (fun wx => stepped_any K64 s bs K64_length hs hbs wx)
  have lK := Lib.hid (show K.length = 64 by rw [hK, List.length_map, K64_length])
  have lH := Lib.hid (show H.length = 8 by rw [hH, List.length_map, H8_length])
  have lS := Lib.hid (show S.length = 8 by rw [hS, List.length_map, hs])
  have lB := Lib.hid (show B.length = 64 by rw [hB, List.length_map, hbs])
  have lR := Lib.hid (show R.length = 8 by rw [hR, List.length_map, stepL_length _ _ _ hs])
  have oK := Lib.hid (show ∀ v ∈ K, v.oneCell' = true by rw [hK]; exact map32_one K64)
  have oH := Lib.hid (show ∀ v ∈ H, v.oneCell' = true by rw [hH]; exact map32_one H8)
  have oR := Lib.hid (show ∀ v ∈ R, v.oneCell' = true by rw [hR]; exact map32_one _)
  rw [← hS, ← hB, ← hR]
  rw [← hK, ← hH] at C
  rw [← hK, ← hS, ← hB, ← hR] at T
  clear hK hH hS hB hR hs hbs
  go_enter Try.func19, Try.ntmps19
  go_wp2_with fail
  refine Calls.mono (C.out _) ?_
  rintro e w1 ⟨rfl, hb1⟩
  have b0 : Li.Blk w1 n S 31 := Li.Blk.grow (Li.Blk.alloc (Li.Blk.alloc (Li.Blk.new' hn) _) _) hb1
  have b1 : Li.Blk w1 (n + 1) B 32 := Li.Blk.grow (Li.Blk.alloc (Li.Blk.new' (by rw [hn]; simp only [World.size_alloc])) _) hb1
  have b2 : Li.Blk w1 (n + 1 + 1) (List.replicate 8 (v32 0#32)) 31 := Li.Blk.grow (Li.Blk.new' (l := List.replicate 8 (v32 0#32)) (by rw [hn]; simp only [World.size_alloc])) hb1
  have hb : Below n w w1 := by
    subst hn
    exact ((((Below.refl _ _).alloc (Nat.le_refl _) _).alloc (by simp) _).alloc (by simp only [World.size_alloc]; omega) _).trans (hb1.mono (by simp only [World.size_alloc]; omega))
  have HN := Lib.hid hn
  rw [← hn]
  clear hn hb1 C
  have n1 := b2.lt
  go_wp2_with (first
    | (refine Li.wpList_store_blk rfl 33 _ _ rfl w1.heap.size (by rfl) (by rfl) (l := List.replicate 64 (v32 0#32)) (t := 33) ?_ ?_ ?_ oK.out ?_; exact Li.Blk.alloc (Li.Blk.new' rfl) _; (rw [lK.out]; rfl); (rw [lK.out]; kernel_rfl))
    | (refine Li.wpList_store_blk rfl 31 (.tmp 6) _ rfl (w1.heap.size + 1) (by rfl) (by rfl) (l := List.replicate 8 (v32 0#32)) (t := 31) ?_ ?_ ?_ oH.out ?_; exact Li.Blk.setCellsOther (Li.Blk.new' (by simp only [World.size_alloc])) (by omega) _ _; (rw [lH.out]; rfl); (rw [lH.out]; kernel_rfl))
    | (refine Li.wpList_load_blk rfl 31 (.tmp 2) rfl n (by rfl) (l := S) (t := 31) (((((b0.alloc _).alloc _).setCellsOther (by omega) _ _).setCellsOther (by omega) _ _)) Try.underlying31 rfl ?_ ?_; (rw [lS.out]; kernel_rfl))
    | (refine Li.wpList_load_blk rfl 32 (.tmp 3) rfl (n + 1) (by rfl) (l := B) (t := 32) (((((b1.alloc _).alloc _).setCellsOther (by omega) _ _).setCellsOther (by omega) _ _)) Try.underlying32 rfl ?_ ?_; (rw [lB.out]; kernel_rfl))
    | (refine Li.wpList_load_blk rfl 33 (.tmp 5) rfl w1.heap.size (by rfl) (l := K) (t := 33) ?_ Try.underlying33 rfl ?_ ?_; exact Li.Blk.setCellsOther (Li.Blk.setAll (l := List.replicate 64 (v32 0#32)) (Li.Blk.alloc (Li.Blk.new' rfl) _) (by rw [lK.out]; rfl)) (by omega) _ _; (rw [lK.out]; kernel_rfl))
    | (go_at_call 36; refine Calls.mono (T.out _) ?_; rintro e w2 ⟨rfl, hb2⟩)
    | (refine Li.wpList_store_blk rfl 31 (.tmp 4) _ rfl (n + 1 + 1) (by rfl) (by rfl) (l := List.replicate 8 (v32 0#32)) (t := 31) ((((((b2.alloc _).alloc _).setCellsOther (by omega) _ _).setCellsOther (by omega) _ _)).grow hb2) ?_ ?_ oR.out ?_; (rw [lR.out]; rfl); (rw [lR.out]; kernel_rfl)))
  have b3 := ((((((b2.alloc (.cells (List.replicate 64 (v32 0#32)).toArray 33)).alloc (.cells (List.replicate 8 (v32 0#32)).toArray 31)).setCellsOther (c := w1.heap.size) (by omega) 0 K).setCellsOther (c := w1.heap.size + 1) (by omega) 0 H)).grow hb2).setAll (vs := R) (by rw [lR.out]; rfl)
  refine Li.bodyPost_blk (by rfl) (by rfl) b3 Try.underlying31 rfl (by rw [lR.out]; kernel_rfl) rfl ⟨rfl, ?_⟩
  rw [← HN.out]
  refine Li.below_setCells _ _ _ _ ?_ (by omega)
  refine Below.trans ?_ (hb2.mono ?_)
  · exact Li.below_setCells _ _ _ _ (Li.below_setCells _ _ _ _ ((hb.alloc (by omega) _).alloc (by simp only [World.size_alloc]; omega) _) (by omega)) (by omega)
  · simp only [Li.size_setCells, World.size_alloc]; omega
structure RSt (n : Nat) (S B K R : List Value) (k : Nat) (w wx : World) : Prop where
  s : Li.Blk wx n S 31
  b : Li.Blk wx (n + 1) B 32
  r : Li.Blk wx (n + 1 + 1) (List.replicate 8 (v32 0#32)) 31 ∨ Li.Blk wx (n + 1 + 1) R 31
  k : Li.Blk wx k K 33
  bl : Below n w wx
set_option maxHeartbeats 1000000 in
theorem rfullstep_any (s : List (BitVec 32)) (bs : List (BitVec 8)) (hs : s.length = 8) (hbs : bs.length = 64) (w : World) :
    Calls Try.prog 20 #[.agg (s.map v32).toArray, .agg (bs.map v8).toArray] w fun e w' => e = .returned (.agg ((stepL K64 s bs).map v32).toArray) ∧ Below w.heap.size w w' := by
  obtain ⟨n, hn⟩ : ∃ n, n = w.heap.size := ⟨_, rfl⟩
  obtain ⟨K, hK⟩ : ∃ K, K = K64.map v32 := ⟨_, rfl⟩
  obtain ⟨H, hH⟩ : ∃ H, H = H8.map v32 := ⟨_, rfl⟩
  obtain ⟨S, hS⟩ : ∃ S, S = s.map v32 := ⟨_, rfl⟩
  obtain ⟨B, hB⟩ : ∃ B, B = bs.map v8 := ⟨_, rfl⟩
  obtain ⟨R, hR⟩ : ∃ R, R = (stepL K64 s bs).map v32 := ⟨_, rfl⟩
  have C := Lib.hid (fun wx => rconstants_any wx)
  have T := Lib.hid (fun wx => rstep_any K64 s bs K64_length hs hbs (n + 1) 0 64 wx)
  have hIB : ∀ wx, Li.Blk wx (n + 1) B 32 → IsB wx (n + 1) 0 bs := by
    intro wx hx i hi
    rw [Nat.zero_add, hx.cell i, hB]
    simp [v8, hi]
  have IB := Lib.hid hIB
  clear hIB
  have lK := Lib.hid (show K.length = 64 by rw [hK, List.length_map, K64_length])
  have lH := Lib.hid (show H.length = 8 by rw [hH, List.length_map, H8_length])
  have lS := Lib.hid (show S.length = 8 by rw [hS, List.length_map, hs])
  have lB := Lib.hid (show B.length = 64 by rw [hB, List.length_map, hbs])
  have lR := Lib.hid (show R.length = 8 by rw [hR, List.length_map, stepL_length _ _ _ hs])
  have oK := Lib.hid (show ∀ v ∈ K, v.oneCell' = true by rw [hK]; exact map32_one K64)
  have oH := Lib.hid (show ∀ v ∈ H, v.oneCell' = true by rw [hH]; exact map32_one H8)
  have oR := Lib.hid (show ∀ v ∈ R, v.oneCell' = true by rw [hR]; exact map32_one _)
  rw [← hS, ← hB, ← hR]
  rw [K_same, H_same, ← hK, ← hH] at C
  rw [← hK, ← hS, ← hR] at T
  clear hK hH hS hB hR hs hbs
  go_enter Try.func20, Try.ntmps20
  go_wp2_with fail
  refine Calls.mono (C.out _) ?_
  rintro e w1 ⟨rfl, hb1⟩
  have b0 : Li.Blk w1 n S 31 := Li.Blk.grow (Li.Blk.alloc (Li.Blk.alloc (Li.Blk.new' hn) _) _) hb1
  have b1 : Li.Blk w1 (n + 1) B 32 := Li.Blk.grow (Li.Blk.alloc (Li.Blk.new' (by rw [hn]; simp only [World.size_alloc])) _) hb1
  have b2 : Li.Blk w1 (n + 1 + 1) (List.replicate 8 (v32 0#32)) 31 := Li.Blk.grow (Li.Blk.new' (l := List.replicate 8 (v32 0#32)) (by rw [hn]; simp only [World.size_alloc])) hb1
  have hb : Below n w w1 := by
    subst hn
    exact ((((Below.refl _ _).alloc (Nat.le_refl _) _).alloc (by simp) _).alloc (by simp only [World.size_alloc]; omega) _).trans (hb1.mono (by simp only [World.size_alloc]; omega))
  have HN := Lib.hid hn
  rw [← hn]
  clear hn hb1 C
  have n1 := b2.lt
  go_wp2_with (first
    | (refine Li.wpList_store_blk rfl 33 _ _ rfl w1.heap.size (by rfl) (by rfl) (l := List.replicate 64 (v32 0#32)) (t := 33) ?_ ?_ ?_ oK.out ?_; exact Li.Blk.alloc (Li.Blk.new' rfl) _; (rw [lK.out]; rfl); (rw [lK.out]; kernel_rfl))
    | (refine Li.wpList_store_blk rfl 31 (.tmp 6) _ rfl (w1.heap.size + 1) (by rfl) (by rfl) (l := List.replicate 8 (v32 0#32)) (t := 31) ?_ ?_ ?_ oH.out ?_; exact Li.Blk.setCellsOther (Li.Blk.new' (by simp only [World.size_alloc])) (by omega) _ _; (rw [lH.out]; rfl); (rw [lH.out]; kernel_rfl)))
  have S0 : ∀ k, k = w1.heap.size → RSt n S B K R k w ((((w1.alloc (.cells (List.replicate 64 (v32 0#32)).toArray 33)).alloc (.cells (List.replicate 8 (v32 0#32)).toArray 31)).setCells w1.heap.size 0 K).setCells (w1.heap.size + 1) 0 H) := by
    rintro k rfl
    exact ⟨(((b0.alloc _).alloc _).setCellsOther (by omega) _ _).setCellsOther (by omega) _ _, (((b1.alloc _).alloc _).setCellsOther (by omega) _ _).setCellsOther (by omega) _ _, .inl ((((b2.alloc _).alloc _).setCellsOther (by omega) _ _).setCellsOther (by omega) _ _),
      Li.Blk.setCellsOther (Li.Blk.setAll (l := List.replicate 64 (v32 0#32)) (Li.Blk.alloc (Li.Blk.new' rfl) _) (by rw [lK.out]; rfl)) (by omega) _ _,
      Li.below_setCells _ _ _ _ (Li.below_setCells _ _ _ _ ((hb.alloc (by omega) _).alloc (by simp only [World.size_alloc]; omega) _) (by omega)) (by omega)⟩
  obtain ⟨k, hk⟩ : ∃ k, k = w1.heap.size := ⟨_, rfl⟩
  have S1 := S0 k hk
  have hkn : n + 2 < k := by omega
  clear S0 b0 b1 b2 hb
  refine Hv.region 5 (RSt n S B K R k w) (fun wa wb => Li.Blk wa (n + 1 + 1) R 31 → Li.Blk wb (n + 1 + 1) R 31) (fun | 3 => some (Hv.con (.agg R.toArray)) | 4 => some ⟨fun v => v = undef, fun _ wx => Li.Blk wx (n + 1 + 1) R 31⟩ | _ => none) (fun _ => []) (by kernel_rfl) (by kernel_rfl) ?_ ⟨S1.s, S1.b, S1.r, S1.k, S1.bl.drew⟩ ?_
  · intro i m hm v wa wb hR hv
    split at hm <;> cases hm
    · trivial
    · exact hR hv
  rw [← hk]
  clear hk S1
  change Hv.HW _ _ _ _ _ _ _ [0, 1, 2, 3, 4] _ _
  refine Hv.pure (v := .agg S.toArray) (by rfl) (by rfl) (by rfl) (fun wx hS => Hv.exec_load_blk (by rfl) (by rfl) hS.s Try.underlying31 rfl (by rw [lS.out]; kernel_rfl)) ?_
  (try simp only [Act.put, List.setIfInBounds_toArray, List.set_cons_zero, List.set_cons_succ])
  refine Hv.pure (v := .slice (some ⟨n + 1, 0, none⟩) 64 64) (by rfl) (by rfl) (by rfl) (fun wx hS => ?_) ?_
  · go_simp
  (try simp only [Act.put, List.setIfInBounds_toArray, List.set_cons_zero, List.set_cons_succ])
  refine Hv.pure (v := .agg K.toArray) (by rfl) (by rfl) (by rfl) (fun wx hS => Hv.exec_load_blk (by rfl) (by rfl) hS.k Try.underlying33 rfl (by rw [lK.out]; kernel_rfl)) ?_
  (try simp only [Act.put, List.setIfInBounds_toArray, List.set_cons_zero, List.set_cons_succ])
  refine Hv.noisy (m := Hv.con (.agg R.toArray)) (by rfl) (by rfl) (by rfl) (Hv.con_ex _) (fun wx hS _ => ?_) (fun v hv => ?_)
  · unfold Hv.Gives
    go_simp
    refine (T.out wx (IB.out wx hS.b)).mono ?_
    rintro e w' ⟨rfl, hbb⟩
    exact ⟨_, rfl, ⟨hS.s.grow hbb, hS.b.grow hbb, hS.r.imp (·.grow hbb) (·.grow hbb), hS.k.grow hbb, hS.bl.trans (hbb.mono (by have := hS.b.lt; omega))⟩, (·.grow hbb), rfl, trivial⟩
  obtain rfl := hv
  (try simp only [Act.put, List.setIfInBounds_toArray, List.set_cons_zero, List.set_cons_succ])
  refine Hv.noisy (m := ⟨fun v => v = undef, fun _ wx => Li.Blk wx (n + 1 + 1) R 31⟩) (by rfl) (by rfl) (by rfl) ⟨_, rfl⟩ (fun wx hS _ => ?_) (fun v hv => ?_)
  · have st : Li.Blk (wx.setCells (n + 1 + 1) 0 R) (n + 1 + 1) R 31 := by
      rcases hS.r with s3 | s3
      · exact s3.setAll (by rw [lR.out]; rfl)
      · exact s3.setAll rfl
    have hG : RSt n S B K R k w (wx.setCells (n + 1 + 1) 0 R) ∧ (Li.Blk wx (n + 1 + 1) R 31 → Li.Blk (wx.setCells (n + 1 + 1) 0 R) (n + 1 + 1) R 31) ∧ undef = undef ∧ Li.Blk (wx.setCells (n + 1 + 1) 0 R) (n + 1 + 1) R 31 :=
      ⟨⟨hS.s.setCellsOther (by omega) _ _, hS.b.setCellsOther (by omega) _ _, .inr st, hS.k.setCellsOther (by omega) _ _, Li.below_setCells _ _ _ _ hS.bl (by omega)⟩, fun _ => st, rfl, st⟩
    rcases hS.r with s3 | s3
    · exact Hv.gives_store_blk (by rfl) (by rfl) (by rfl) s3 (by rw [lR.out]; rfl) (by rw [lR.out]; kernel_rfl) oR.out hG
    · exact Hv.gives_store_blk (by rfl) (by rfl) (by rfl) s3 rfl (by rw [lR.out]; kernel_rfl) oR.out hG
  obtain rfl := hv
  (try simp only [Act.put])
  refine Hv.done (fun wx hS hL => ?_)
  have k1 : Li.Blk wx (n + 1 + 1) R 31 := hL (4, fun wx => Li.Blk wx (n + 1 + 1) R 31) (by simp)
  clear hL
  simp only [List.drop_succ_cons, List.drop_nil]
  go_wp2_with fail
  refine Li.bodyPost_blk (by rfl) (by rfl) k1 Try.underlying31 rfl (by rw [lR.out]; kernel_rfl) rfl ⟨rfl, ?_⟩
  rw [← HN.out]
  exact hS.bl
end Sha
end Go.Proofs.Ytehfogkjhlfeoaa

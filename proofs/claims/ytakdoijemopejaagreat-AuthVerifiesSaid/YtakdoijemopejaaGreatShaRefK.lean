/- The walk of the reference's constants. -/
import Derived.Test.YtakdoijemopejaaGreatShaDig
set_option maxRecDepth 100000
set_option linter.unusedSimpArgs false
set_option linter.unusedVariables false
namespace Go.Proofs.YtakdoijemopejaaGreat
open Go.RowKit
namespace Sha
open Bv (n8 n16 n32 n64)
def fnd : Nat → List Nat
 | 0 => []
 | p + 1 => if 2 ≤ p ∧ isP p = true then fnd p ++ [p] else fnd p
theorem fnd_yes (p : Nat) (h : 2 ≤ p) (hp : isP p = true) : fnd (p + 1) = fnd p ++ [p] := by rw [fnd, if_pos ⟨h, hp⟩]
theorem fnd_no (p : Nat) (hp : isP p = false) : fnd (p + 1) = fnd p := by rw [fnd, if_neg (by simp [hp])]
theorem fnd_pre (p d : Nat) : fnd p <+: fnd (p + d) := by
 induction d with
 | zero => exact List.prefix_refl _
 | succ d ih =>
  rw [← Nat.add_assoc, fnd]
  split
  ·exact ih.trans (List.prefix_append _ _)
  ·exact ih
theorem fnd_312 : fnd 312 = pr64 := by decide +kernel
theorem fnd_len : (fnd 312).length = 64 := by decide +kernel
theorem fnd_lt {p : Nat} (h : (fnd p).length < 64) : p < 312 := by
 refine Nat.lt_of_not_le fun hle => ?_
 have h1 := (fnd_pre 312 (p - 312)).length_le
 rw [Nat.add_sub_cancel' hle, fnd_len] at h1
 omega
theorem fnd_full {p : Nat} (hp : p ≤ 312) (h : (fnd p).length = 64) : fnd p = pr64 := by
 rw [← fnd_312]
 have h1 := fnd_pre p (312 - p)
 rw [Nat.add_sub_cancel' hp] at h1
 exact h1.eq_of_length (by rw [h, fnd_len])
def RKr (l : List Nat) : List Value := Li.rowOf (v32 0#32) 64 (l.map fun p => v32 (digN p 3))
def RHr (l : List Nat) : List Value := Li.rowOf (v32 0#32) 8 ((l.take 8).map fun p => v32 (digN p 2))
theorem RKr_set (l : List Nat) (h : l.length < 64) (p : Nat) : (RKr l).set l.length (v32 (digN p 3)) = RKr (l ++ [p]) := by
 have e := Li.rowOf_set (v32 0#32) 64 (l.map fun p => v32 (digN p 3)) (by simpa using h) (v32 (digN p 3))
 unfold RKr
 rw [List.length_map] at e
 rw [e, List.map_append]; rfl
theorem RHr_set (l : List Nat) (h : l.length < 8) (p : Nat) : (RHr l).set l.length (v32 (digN p 2)) = RHr (l ++ [p]) := by
 have e := Li.rowOf_set (v32 0#32) 8 (l.map fun p => v32 (digN p 2)) (by simpa using h) (v32 (digN p 2))
 unfold RHr
 rw [List.length_map] at e
 rw [List.take_of_length_le (by omega), e, List.take_of_length_le (by simp; omega), List.map_append]; rfl
theorem RHr_stay (l : List Nat) (h : 8 ≤ l.length) (p : Nat) : RHr (l ++ [p]) = RHr l := by
 unfold RHr; rw [List.take_append_of_le_length h]
structure RkInv (n : Nat) (w : World) (l m : List Nat) (wr : World) : Prop where
 z1 : Li.Blk wr n (Li.rowOf (v32 0#32) 64 []) 125
 z2 : Li.Blk wr (n + 1) (Li.rowOf (v32 0#32) 8 []) 126
 kb : Li.Blk wr (n + 2) (RKr l) 125
 hb : Li.Blk wr (n + 3) (RHr m) 126
 b : Below n w wr
theorem RkInv.ext {n : Nat} {w : World} {l m : List Nat} {wr wx : World} (h : RkInv n w l m wr) (e : Below wr.heap.size wr wx) : RkInv n w l m wx :=
 ⟨h.z1.grow e, h.z2.grow e, h.kb.grow e, h.hb.grow e, h.b.trans (e.mono (by have := h.hb.lt; omega))⟩
theorem RkInv.setK {n : Nat} {w : World} {l m : List Nat} {p : Nat} {wr : World} (h : RkInv n w l m wr) (hl : l.length < 64) : RkInv n w (l ++ [p]) m (wr.setCell ⟨n + 2, l.length, none⟩ (v32 (digN p 3))) :=
 ⟨h.z1.setOther (by simp) _, h.z2.setOther (by simp) _, by rw [← RKr_set l hl p]; exact h.kb.set _ _, h.hb.setOther (by simp) _, h.b.setCell (by simp) _⟩
theorem RkInv.setH {n : Nat} {w : World} {l m : List Nat} {p : Nat} {wr : World} (h : RkInv n w l m wr) (hl : m.length < 8) : RkInv n w l (m ++ [p]) (wr.setCell ⟨n + 3, m.length, none⟩ (v32 (digN p 2))) :=
 ⟨h.z1.setOther (by simp) _, h.z2.setOther (by simp) _, h.kb.setOther (by simp) _, by rw [← RHr_set m hl p]; exact h.hb.set _ _, h.b.setCell (by simp) _⟩
theorem RkInv.stay {n : Nat} {w : World} {l m : List Nat} {p : Nat} {wr : World} (h : RkInv n w l m wr) (hl : 8 ≤ m.length) : RkInv n w l (m ++ [p]) wr :=
 ⟨h.z1, h.z2, h.kb, by rw [RHr_stay m hl p]; exact h.hb, h.b⟩
def RK64 : List (BitVec 32) := pr64.map fun p => digN p 3
def RH8 : List (BitVec 32) := (pr64.take 8).map fun p => digN p 2
attribute [local irreducible] digN pr64 fnd isP
set_option maxRecDepth 100000 in
set_option maxHeartbeats 4000000 in
theorem rconstants_any (w : World) : Calls Tryz.prog 67 #[] w fun e w' => e = .returned (.tuple #[.agg (RK64.map v32).toArray, .agg (RH8.map v32).toArray]) ∧ Below w.heap.size w w' := by
 obtain ⟨n, hn⟩ : ∃ n, n = w.heap.size := ⟨_, rfl⟩
 have f2 : fnd 2 = [] := by decide +kernel
 go_enter Tryz.func67, Tryz.ntmps67
 go_wp2_with fail
 have I0 : RkInv n w [] [] ((((w.alloc (.cells (Li.rowOf (v32 0#32) 64 []).toArray 125)).alloc (.cells (Li.rowOf (v32 0#32) 8 []).toArray 126)).alloc (.cells (Li.rowOf (v32 0#32) 64 []).toArray 125)).alloc (.cells (Li.rowOf (v32 0#32) 8 []).toArray 126)) := by
  subst hn
  refine ⟨?_, ?_, ?_, ?_, ?_⟩
  ·exact Li.Blk.alloc (Li.Blk.alloc (Li.Blk.alloc (Li.Blk.new' rfl) _) _) _
  ·exact Li.Blk.alloc (Li.Blk.alloc (Li.Blk.new' (by simp only [World.size_alloc])) _) _
  ·exact Li.Blk.alloc (Li.Blk.new' (by simp only [World.size_alloc])) _
  ·exact Li.Blk.new' (by simp only [World.size_alloc])
  ·exact ((((Below.refl _ _).alloc (Nat.le_refl _) _).alloc (by simp) _).alloc (by simp only [World.size_alloc]; omega) _).alloc (by simp only [World.size_alloc]; omega) _
 have HN := Lib.hid hn
 rw [← hn]
 clear hn
 go_loopg [4, 5] 310 (fun gh s4 s5 wr => ∃ p : Nat, gh = 312 - p ∧ 2 ≤ p ∧ p ≤ 312 ∧ s4 = .int .i64 ((fnd p).length : Nat) ∧ s5 = .int .i64 p ∧ Hid ((fnd p).length ≤ 64) ∧ RkInv n w (fnd p) (fnd p) wr)
 case atStart => exact ⟨2, rfl, by omega, by omega, by rw [f2]; rfl, rfl, Lib.hid (by rw [f2]; simp), by rw [f2]; exact I0⟩
 case round =>
  clear I0
  obtain ⟨p, rfl, hp2, hp, rfl, rfl, hlen, hI⟩ := hrel
  obtain ⟨k, hk⟩ : ∃ k, k = (fnd p).length := ⟨_, rfl⟩
  rw [← hk] at hlen
  rw [← hk]
  have hk64 := hlen.out
  by_cases hlt : k < 64
  ·have hp3 : p < 312 := fnd_lt (by omega)
   have hp4 : p < 1000 := by omega
   have hki : (k : Int) < 64 := by omega
   have CP := Lib.hid (fun wx => rprime_any p (by omega) wx)
   have C3 := Lib.hid (fun wx => digits_any p 3 hp4 (by omega) wx)
   have C2 := Lib.hid (fun wx => digits_any p 2 hp4 (by omega) wx)
   have KK := Lib.hid hk
   have cK : wr.cell? ⟨n + 2, k, none⟩ = some _ := (hI.kb.cell k).trans (Li.rowOf_get _ _ _ _ hlt)
   cases hpp : isP p with
   | false =>
    rw [hpp] at CP
    have hf := Lib.hid (fnd_no p hpp)
    clear hpp hk cK
    go_wp2_with fail
    refine Calls.mono (CP.out _) ?_
    rintro e w1 ⟨rfl, rfl⟩
    go_wp2_with fail
    go_roundg (312 - (p + 1))
    case measure => omega
    case rel => exact ⟨p + 1, rfl, by omega, by omega, by rw [hf.out, ← KK.out], by go_num, by rw [hf.out, ← KK.out]; exact hlen, by rw [hf.out]; exact hI⟩
   | true =>
    rw [hpp] at CP
    have hf := Lib.hid (fnd_yes p hp2 hpp)
    clear hpp hk cK
    go_wp2_with fail
    refine Calls.mono (CP.out _) ?_
    rintro e w1 ⟨rfl, rfl⟩
    go_wp2_with fail
    refine Calls.mono (C3.out _) ?_
    rintro e w1 ⟨rfl, hb1⟩
    have hI1 := hI.ext hb1
    have c1 : w1.cell? ⟨n + 2, k, none⟩ = some _ := (hI1.kb.cell k).trans (Li.rowOf_get _ _ _ _ hlt)
    have f1 := hI1.kb.frozen k
    have hS := hI1.setK (p := p) (by rw [← KK.out]; exact hlt)
    rw [← KK.out] at hS
    have HS := Lib.hid hS
    clear hI hI1 hS hb1
    by_cases h8 : k < 8
    ·have h8i : (k : Int) < 8 := by omega
     go_wp2_with fail
     refine Calls.mono (C2.out _) ?_
     rintro e w2 ⟨rfl, hb2⟩
     have hI2 := (show RkInv n w (fnd p ++ [p]) (fnd p) (w1.setCell ⟨n + 2, k, none⟩ (.int .u32 (n32 (digN p 3)))) from HS.out).ext hb2
     have c2 : w2.cell? ⟨n + 3, k, none⟩ = some _ := (hI2.hb.cell k).trans (Li.rowOf_get _ _ _ _ h8)
     have f2 := hI2.hb.frozen k
     have hS2 := hI2.setH (p := p) (by rw [← KK.out]; exact h8)
     rw [← KK.out, ← hf.out] at hS2
     clear hI2 hb2 c1 f1 HS
     have H2 := Lib.hid hS2
     clear hS2
     go_wp2_with fail
     go_roundg (312 - (p + 1))
     case measure => omega
     case rel => exact ⟨p + 1, rfl, by omega, by omega, by rw [hf.out, List.length_append, ← KK.out]; go_num, by go_num, Lib.hid (by rw [hf.out, List.length_append, ← KK.out]; simp; omega), H2.out⟩
    ·have h8' : ¬ (k : Int) < 8 := by omega
     go_wp2_with fail
     go_roundg (312 - (p + 1))
     case measure => omega
     case rel => exact ⟨p + 1, rfl, by omega, by omega, by rw [hf.out, List.length_append, ← KK.out]; go_num, by go_num, Lib.hid (by rw [hf.out, List.length_append, ← KK.out]; simp; omega), by rw [hf.out]; exact HS.out.stay (by rw [← KK.out]; omega)⟩
  ·have ek : k = 64 := by omega
   subst ek
   have hK : RKr (fnd p) = RK64.map v32 := by
    unfold RKr RK64; rw [← fnd_full hp hk.symm, Li.rowOf_full _ _ _ (by rw [List.length_map]; exact hk.symm), List.map_map]; rfl
   have hH : RHr (fnd p) = RH8.map v32 := by
    unfold RHr RH8; rw [← fnd_full hp hk.symm, Li.rowOf_full _ _ _ (by rw [List.length_map, List.length_take, ← hk]; rfl), List.map_map]; rfl
   have lK : (RK64.map v32).length = 64 := by rw [RK64, List.length_map, List.length_map, ← fnd_full hp hk.symm]; exact hk.symm
   have lH : (RH8.map v32).length = 8 := by rw [RH8, List.length_map, List.length_map, ← fnd_full hp hk.symm, List.length_take, ← hk]; rfl
   have h1 := hI.kb
   have h2 := hI.hb
   have h3 := hI.z1
   have h4 := hI.z2
   have hb := hI.b
   rw [hK] at h1
   rw [hH] at h2
   obtain ⟨A, hA⟩ : ∃ A, A = RK64.map v32 := ⟨_, rfl⟩
   obtain ⟨B, hB⟩ : ∃ B, B = RH8.map v32 := ⟨_, rfl⟩
   obtain ⟨Z, hZ⟩ : ∃ Z, Z = Li.rowOf (v32 0#32) 64 [] := ⟨_, rfl⟩
   obtain ⟨Y, hY⟩ : ∃ Y, Y = Li.rowOf (v32 0#32) 8 [] := ⟨_, rfl⟩
   have la : A.length = 64 := by rw [hA]; exact lK
   have lb : B.length = 8 := by rw [hB]; exact lH
   have lz : Z.length = 64 := by rw [hZ]; rfl
   have ly : Y.length = 8 := by rw [hY]; rfl
   have oa : ∀ v ∈ A, v.oneCell' = true := by rw [hA]; intro v hv; obtain ⟨x, _, rfl⟩ := List.mem_map.1 hv; rfl
   have ob : ∀ v ∈ B, v.oneCell' = true := by rw [hB]; intro v hv; obtain ⟨x, _, rfl⟩ := List.mem_map.1 hv; rfl
   rw [← hA] at h1
   rw [← hB] at h2
   rw [← hZ] at h3
   rw [← hY] at h4
   have HA := Lib.hid hA
   have HB := Lib.hid hB
   have LA := Lib.hid la
   have LB := Lib.hid lb
   have LZ := Lib.hid lz
   have LY := Lib.hid ly
   have OA := Lib.hid oa
   have OB := Lib.hid ob
   clear hA hB la lb oa ob hK hH hI lK lH hZ hY lz ly hk hlen
   go_wp2_with fail
   refine Hv.region 4 (fun wx => Li.Blk wx (n + 2) A 125 ∧ Li.Blk wx (n + 3) B 126 ∧ (Li.Blk wx n Z 125 ∨ Li.Blk wx n A 125) ∧ (Li.Blk wx (n + 1) Y 126 ∨ Li.Blk wx (n + 1) B 126) ∧ Below n w wx) (fun w1 w2 => (Li.Blk w1 n A 125 → Li.Blk w2 n A 125) ∧ (Li.Blk w1 (n + 1) B 126 → Li.Blk w2 (n + 1) B 126)) (fun | 2 => some ⟨fun v => v = undef, fun _ wx => Li.Blk wx n A 125⟩ | 3 => some ⟨fun v => v = undef, fun _ wx => Li.Blk wx (n + 1) B 126⟩ | _ => none) (fun _ => []) (by kernel_rfl) (by kernel_rfl) ?_ ⟨h1, h2, .inl h3, .inl h4, hb.drew⟩ ?_
   ·intro i m hm v wa wb hR hv
    split at hm <;> cases hm
    ·exact hR.1 hv
    ·exact hR.2 hv
   ·change Hv.HW _ _ _ _ _ _ _ [0, 1, 2, 3] _ _
    refine Hv.pure (v := .agg A.toArray) (by rfl) (by rfl) (by rfl) (fun wx hS => Hv.exec_load_blk (by rfl) (by rfl) hS.1 Tryz.underlying125 rfl (by rw [LA.out]; kernel_rfl)) ?_
    (try simp only [Act.put, List.setIfInBounds_toArray, List.set_cons_zero, List.set_cons_succ])
    refine Hv.pure (v := .agg B.toArray) (by rfl) (by rfl) (by rfl) (fun wx hS => Hv.exec_load_blk (by rfl) (by rfl) hS.2.1 Tryz.underlying126 rfl (by rw [LB.out]; kernel_rfl)) ?_
    (try simp only [Act.put, List.setIfInBounds_toArray, List.set_cons_zero, List.set_cons_succ])
    refine Hv.noisy (m := ⟨fun v => v = undef, fun _ wx => Li.Blk wx n A 125⟩) (by rfl) (by rfl) (by rfl) ⟨_, rfl⟩ (fun wx hS _ => ?_) (fun v hv => ?_)
    ·obtain ⟨s1, s2, s3, s4, s5⟩ := hS
     have st : Li.Blk (wx.setCells n 0 A) n A 125 := by
      rcases s3 with s3 | s3
      ·exact s3.setAll (by rw [LA.out, LZ.out])
      ·exact s3.setAll rfl
     have hG : (Li.Blk (wx.setCells n 0 A) (n + 2) A 125 ∧ Li.Blk (wx.setCells n 0 A) (n + 3) B 126 ∧ (Li.Blk (wx.setCells n 0 A) n Z 125 ∨ Li.Blk (wx.setCells n 0 A) n A 125) ∧ (Li.Blk (wx.setCells n 0 A) (n + 1) Y 126 ∨ Li.Blk (wx.setCells n 0 A) (n + 1) B 126) ∧ Below n w (wx.setCells n 0 A)) ∧ ((Li.Blk wx n A 125 → Li.Blk (wx.setCells n 0 A) n A 125) ∧ (Li.Blk wx (n + 1) B 126 → Li.Blk (wx.setCells n 0 A) (n + 1) B 126)) ∧ undef = undef ∧ Li.Blk (wx.setCells n 0 A) n A 125 :=
      ⟨⟨s1.setCellsOther (by omega) _ _, s2.setCellsOther (by omega) _ _, .inr st, s4.imp (·.setCellsOther (by omega) _ _) (·.setCellsOther (by omega) _ _), Li.below_setCells _ _ _ _ s5 (by omega)⟩, ⟨fun _ => st, (·.setCellsOther (by omega) _ _)⟩, rfl, st⟩
     rcases s3 with s3 | s3
     ·exact Hv.gives_store_blk (by rfl) (by rfl) (by rfl) s3 (by rw [LA.out, LZ.out]) (by rw [LA.out]; kernel_rfl) OA.out hG
     ·exact Hv.gives_store_blk (by rfl) (by rfl) (by rfl) s3 rfl (by rw [LA.out]; kernel_rfl) OA.out hG
    obtain rfl := hv
    (try simp only [Act.put])
    refine Hv.noisy (m := ⟨fun v => v = undef, fun _ wx => Li.Blk wx (n + 1) B 126⟩) (by rfl) (by rfl) (by rfl) ⟨_, rfl⟩ (fun wx hS _ => ?_) (fun v hv => ?_)
    ·obtain ⟨s1, s2, s3, s4, s5⟩ := hS
     have st : Li.Blk (wx.setCells (n + 1) 0 B) (n + 1) B 126 := by
      rcases s4 with s4 | s4
      ·exact s4.setAll (by rw [LB.out, LY.out])
      ·exact s4.setAll rfl
     have hG : (Li.Blk (wx.setCells (n + 1) 0 B) (n + 2) A 125 ∧ Li.Blk (wx.setCells (n + 1) 0 B) (n + 3) B 126 ∧ (Li.Blk (wx.setCells (n + 1) 0 B) n Z 125 ∨ Li.Blk (wx.setCells (n + 1) 0 B) n A 125) ∧ (Li.Blk (wx.setCells (n + 1) 0 B) (n + 1) Y 126 ∨ Li.Blk (wx.setCells (n + 1) 0 B) (n + 1) B 126) ∧ Below n w (wx.setCells (n + 1) 0 B)) ∧ ((Li.Blk wx n A 125 → Li.Blk (wx.setCells (n + 1) 0 B) n A 125) ∧ (Li.Blk wx (n + 1) B 126 → Li.Blk (wx.setCells (n + 1) 0 B) (n + 1) B 126)) ∧ undef = undef ∧ Li.Blk (wx.setCells (n + 1) 0 B) (n + 1) B 126 :=
      ⟨⟨s1.setCellsOther (by omega) _ _, s2.setCellsOther (by omega) _ _, s3.imp (·.setCellsOther (by omega) _ _) (·.setCellsOther (by omega) _ _), .inr st, Li.below_setCells _ _ _ _ s5 (by omega)⟩, ⟨(·.setCellsOther (by omega) _ _), fun _ => st⟩, rfl, st⟩
     rcases s4 with s4 | s4
     ·exact Hv.gives_store_blk (by rfl) (by rfl) (by rfl) s4 (by rw [LB.out, LY.out]) (by rw [LB.out]; kernel_rfl) OB.out hG
     ·exact Hv.gives_store_blk (by rfl) (by rfl) (by rfl) s4 rfl (by rw [LB.out]; kernel_rfl) OB.out hG
    obtain rfl := hv
    (try simp only [Act.put])
    refine Hv.done (fun wx hS hL => ?_)
    have k1 : Li.Blk wx n A 125 := hL (2, fun wx => Li.Blk wx n A 125) (by simp)
    have k2 : Li.Blk wx (n + 1) B 126 := hL (3, fun wx => Li.Blk wx (n + 1) B 126) (by simp)
    clear hL
    simp only [List.drop_succ_cons, List.drop_nil]
    go_wp2_with fail
    refine bodyPost_ret (Li.results_blk2 (by rfl) _ (by rfl) (by rfl) k1 k2 Tryz.underlying125 rfl (by rw [LA.out]; kernel_rfl) Tryz.underlying126 rfl (by rw [LB.out]; kernel_rfl)) rfl ⟨?_, ?_⟩
    ·rw [HA.out, HB.out]
    ·rw [← HN.out]; exact hS.2.2.2.2
end Sha
end Go.Proofs.YtakdoijemopejaaGreat


/- The walk of sha.Constants. -/
import Derived.Test.YtakdoijemopejaaGreatShaRoot
import Derived.Test.YtakdoijemopejaaGreatBaseA
import Derived.Test.YtakdoijemopejaaGreatShaSched
set_option maxRecDepth 100000
set_option linter.unusedSimpArgs false
set_option linter.unusedVariables false
namespace Go.Proofs.YtakdoijemopejaaGreat
open Go.RowKit
namespace Sha
open Bv (n8 n16 n32 n64)
attribute [local go_sem ↓] Bv.xor_n64 Bv.and_n64 Bv.or_n64 Bv.add_n64 Bv.sub_n64 Bv.mul_n64 Bv.shl_n64 Bv.shr_n64
attribute [local go_sem] Bv.of_n64 Bv.wrap_n32_of Bv.of32_n64
def kOf (p : Nat) : BitVec 32 := (rootGo cubeW [0#64, BitVec.ofNat 64 p <<< 32, 0#64] 36 0#64).setWidth 32
def hOf (p : Nat) : BitVec 32 := (rootGo squareW [0#64, BitVec.ofNat 64 p, 0#64] 36 0#64).setWidth 32
def K64 : List (BitVec 32) := pr64.map kOf
def H8 : List (BitVec 32) := (pr64.take 8).map hOf
theorem pr64_lt : ∀ q ∈ pr64, q < 1000 := by decide
attribute [local irreducible] kOf hOf pr64 rootGo
theorem u64v_eq (q : Nat) (h : q < 1000) : u64v q = .int .u64 (n64 (BitVec.ofNat 64 q)) := by
 unfold u64v n64; rw [BitVec.toNat_ofNat, Nat.mod_eq_of_lt (by omega)]
def Kr (L : List Nat) (k : Nat) : List Value := Li.rowOf (v32 0#32) 64 ((L.take k).map fun p => v32 (kOf p))
def Hr (L : List Nat) (k : Nat) : List Value := Li.rowOf (v32 0#32) 8 ((L.take (min k 8)).map fun p => v32 (hOf p))
theorem Kr_set (L : List Nat) (hL : L.length = 64) (k : Nat) (hk : k < 64) : (Kr L k).set k (v32 (kOf (L.getD k 0))) = Kr L (k + 1) := by
 have e := Li.rowOf_set (v32 0#32) 64 ((L.take k).map fun p => v32 (kOf p)) (by simp; omega) (v32 (kOf (L.getD k 0)))
 have el : ((L.take k).map fun p => v32 (kOf p)).length = k := by simp; omega
 rw [el] at e
 unfold Kr
 rw [e, List.take_succ_eq_append_getElem (by omega), List.map_append]
 simp [hL, hk]
theorem Hr_set (L : List Nat) (hL : L.length = 64) (k : Nat) (hk : k < 8) : (Hr L k).set k (v32 (hOf (L.getD k 0))) = Hr L (k + 1) := by
 have e := Li.rowOf_set (v32 0#32) 8 ((L.take k).map fun p => v32 (hOf p)) (by simp; omega) (v32 (hOf (L.getD k 0)))
 have el : ((L.take k).map fun p => v32 (hOf p)).length = k := by simp; omega
 rw [el] at e
 unfold Hr
 rw [Nat.min_eq_left (by omega), Nat.min_eq_left (by omega), e, List.take_succ_eq_append_getElem (by omega), List.map_append]
 simp [hL, show k < 64 by omega]
theorem Hr_stay (L : List Nat) (k : Nat) (hk : 8 ≤ k) : Hr L (k + 1) = Hr L k := by
 unfold Hr; rw [Nat.min_eq_right (by omega), Nat.min_eq_right (by omega)]
structure CInv (n : Nat) (w : World) (L : List Nat) (k : Nat) (wr : World) : Prop where
 kb : Li.Blk wr n (Kr L k) 125
 hb : Li.Blk wr (n + 1) (Hr L k) 126
 b : Below n w wr
/-- Between the two stores of a round. -/
structure CMid (n : Nat) (w : World) (L : List Nat) (k : Nat) (wr : World) : Prop where
 nb : Li.Blk wr n (Kr L (k + 1)) 125
 kb : Li.Blk wr (n + 1) (Hr L k) 126
 b : Below n w wr
theorem CInv.ext {n : Nat} {w : World} {L : List Nat} {k : Nat} {wr wx : World} (h : CInv n w L k wr) (e : Below wr.heap.size wr wx) : CInv n w L k wx :=
 ⟨h.kb.grow e, h.hb.grow e, h.b.trans (e.mono (by have := h.hb.lt; omega))⟩
theorem CMid.ext {n : Nat} {w : World} {L : List Nat} {k : Nat} {wr wx : World} (h : CMid n w L k wr) (e : Below wr.heap.size wr wx) : CMid n w L k wx :=
 ⟨h.nb.grow e, h.kb.grow e, h.b.trans (e.mono (by have := h.kb.lt; omega))⟩
theorem CInv.setK {n : Nat} {w : World} {L : List Nat} {k p : Nat} {wr : World} (h : CInv n w L k wr) (hL : L.length = 64) (hp : p = L.getD k 0) (hk : k < 64) : CMid n w L k (wr.setCell ⟨n, k, none⟩ (v32 (kOf p))) :=
 ⟨by rw [← Kr_set L hL k hk, ← hp]; exact h.kb.set k _, h.hb.setOther (by simp) _, h.b.setCell (by simp) _⟩
theorem CMid.setH {n : Nat} {w : World} {L : List Nat} {k p : Nat} {wr : World} (h : CMid n w L k wr) (hL : L.length = 64) (hp : p = L.getD k 0) (hk : k < 8) : CInv n w L (k + 1) (wr.setCell ⟨n + 1, k, none⟩ (v32 (hOf p))) :=
 ⟨h.nb.setOther (by simp) _, by rw [← Hr_set L hL k hk, ← hp]; exact h.kb.set k _, h.b.setCell (by simp) _⟩
theorem CMid.stay {n : Nat} {w : World} {L : List Nat} {k : Nat} {wr : World} (h : CMid n w L k wr) (hk : 8 ≤ k) : CInv n w L (k + 1) wr :=
 ⟨h.nb, by rw [Hr_stay L k hk]; exact h.kb, h.b⟩
set_option maxRecDepth 100000 in
set_option maxHeartbeats 4000000 in
theorem constants_any (w : World) : Calls Tryz.prog 91 #[] w fun e w' => e = .returned (.tuple #[.agg (K64.map v32).toArray, .agg (H8.map v32).toArray]) ∧ Below w.heap.size w w' := by
 obtain ⟨n, hn⟩ : ∃ n, n = w.heap.size := ⟨_, rfl⟩
 obtain ⟨L, hL⟩ : ∃ L, L = pr64 := ⟨_, rfl⟩
 have C := Lib.hid (fun wx => primes_any wx)
 rw [← hL] at C
 have hlen : L.length = 64 := by rw [hL]; decide +kernel
 have hlt1 : ∀ q ∈ L, q < 1000 := by rw [hL]; exact pr64_lt
 have HLEN := Lib.hid hlen
 have HLT := Lib.hid hlt1
 have HL := Lib.hid hL
 clear hL hlen hlt1
 go_enter Tryz.func91, Tryz.ntmps91
 go_wp2_with (go_at_call 95; refine Calls.mono (C.out _) ?_; rintro e w1 ⟨rfl, hb1⟩)
 have I0 : CInv n w L 0 w1 := by
  subst hn
  refine ⟨?_, ?_, ?_⟩
  ·exact Li.Blk.grow (Li.Blk.alloc (Li.Blk.new' (l := Kr L 0) rfl) _) hb1
  ·exact Li.Blk.grow (Li.Blk.new' (l := Hr L 0) (by simp only [World.size_alloc])) hb1
  ·exact (((Below.refl _ _).alloc (Nat.le_refl _) _).alloc (by simp) _).trans (hb1.mono (by simp only [World.size_alloc]; omega))
 clear hb1
 have HN := Lib.hid hn
 rw [← hn]
 clear hn
 go_loopg [7] 64 (fun gh s7 wr => ∃ k : Nat, gh = 64 - k ∧ k ≤ 64 ∧ s7 = .int .i64 k ∧ CInv n w L k wr)
 case atStart => exact ⟨0, rfl, by omega, rfl, I0⟩
 case round =>
  clear I0
  obtain ⟨k, rfl, hk, rfl, hI⟩ := hrel
  by_cases hlt : k < 64
  ·obtain ⟨p, hp⟩ : ∃ p, p = L.getD k 0 := ⟨_, rfl⟩
   have hp1 : p < 1000 := by
    rw [hp]; have : L.getD k 0 = L[k]'(by rw [HLEN.out]; exact hlt) := by simp [HLEN.out, hlt]
    rw [this]; exact HLT.out _ (List.getElem_mem _)
   have hix : ∀ wx, (Instr.index 170 (.agg (L.map u64v).toArray) (.int .i64 (k : Int))).run Tryz.prog wx = .ok (.int .u64 (n64 (BitVec.ofNat 64 p))) wx := fun wx => by
    rw [← u64v_eq p hp1]
    exact Li.run_index Tryz.underlying170 Tryz.underlying90 (by kernel_rfl) _ k hlt (by simp [HLEN.out, hlt, hp]) _
   have cK : wr.cell? ⟨n, k, none⟩ = some _ := (hI.kb.cell k).trans (Li.rowOf_get _ _ _ _ hlt)
   have fK := hI.kb.frozen k
   have fH := hI.hb.frozen k
   have HP := Lib.hid hp
   clear hp hp1
   have RC := Lib.hid (fun wx => root_cube 0#64 (BitVec.ofNat 64 p <<< 32) 0#64 wx)
   have RS := Lib.hid (fun wx => root_square 0#64 (BitVec.ofNat 64 p) 0#64 wx)
   have hko : (rootGo cubeW [0#64, BitVec.ofNat 64 p <<< 32, 0#64] 36 0#64).setWidth 32 = kOf p := by unfold kOf; rfl
   have hho : (rootGo squareW [0#64, BitVec.ofNat 64 p, 0#64] 36 0#64).setWidth 32 = hOf p := by unfold hOf; rfl
   have HK := Lib.hid hko
   have HH := Lib.hid hho
   clear hko hho
   have nk := hI.hb.lt
   by_cases h8 : k < 8
   ·have cH : wr.cell? ⟨n + 1, k, none⟩ = some _ := (hI.hb.cell k).trans (Li.rowOf_get _ _ _ _ h8)
    go_wp2_with fail
    refine Calls.mono (RC.out _) ?_
    rintro e w1 ⟨rfl, hb1⟩
    have hI1 := hI.ext hb1
    have c1 : w1.cell? ⟨n, k, none⟩ = some _ := (hI1.kb.cell k).trans (Li.rowOf_get _ _ _ _ hlt)
    have f1 := hI1.kb.frozen k
    clear cK fK fH hI hix cH
    have kl : (k : Int) < 64 := by omega
    go_wp2_with fail
    refine Calls.mono (RS.out _) ?_
    rintro e w2 ⟨rfl, hb2⟩
    have hI2 := (show CMid n w L k (w1.setCell ⟨n, k, none⟩ (.int .u32 (n32 ((rootGo cubeW [0#64, BitVec.ofNat 64 p <<< 32, 0#64] 36 0#64).setWidth 32)))) from by rw [HK.out]; exact hI1.setK HLEN.out HP.out hlt).ext hb2
    have c2 : w2.cell? ⟨n + 1, k, none⟩ = some _ := (hI2.kb.cell k).trans (Li.rowOf_get _ _ _ _ h8)
    have f2 := hI2.kb.frozen k
    have kl8 : (k : Int) < 8 := by omega
    clear hI1 c1 f1 hb1 hb2
    go_wp2_with fail
    go_roundg (64 - (k + 1))
    case measure => omega
    case rel =>
     refine ⟨k + 1, rfl, by omega, by go_num, ?_⟩
     rw [HH.out]
     exact hI2.setH HLEN.out HP.out h8
   ·have h8' : ¬ (k : Int) < 8 := by omega
    go_wp2_with fail
    refine Calls.mono (RC.out _) ?_
    rintro e w1 ⟨rfl, hb1⟩
    have hI1 := hI.ext hb1
    have c1 : w1.cell? ⟨n, k, none⟩ = some _ := (hI1.kb.cell k).trans (Li.rowOf_get _ _ _ _ hlt)
    have f1 := hI1.kb.frozen k
    clear cK fK fH hI hix
    have kl : (k : Int) < 64 := by omega
    go_wp2_with fail
    go_roundg (64 - (k + 1))
    case measure => omega
    case rel =>
     refine ⟨k + 1, rfl, by omega, by go_num, ?_⟩
     rw [HK.out]
     exact (hI1.setK HLEN.out HP.out hlt).stay (by omega)
  ·have ek : k = 64 := by omega
   subst ek
   have hK : Kr L 64 = K64.map v32 := by
    unfold Kr K64; rw [← HL.out, List.take_of_length_le (by rw [HLEN.out]; exact Nat.le_refl _), Li.rowOf_full _ _ _ (by simp [HLEN.out]), List.map_map]; rfl
   have hH : Hr L 64 = H8.map v32 := by
    unfold Hr H8; rw [← HL.out, show min 64 8 = 8 from rfl, Li.rowOf_full _ _ _ (by simp [HLEN.out]), List.map_map]; rfl
   have h1 := hI.kb
   have h2 := hI.hb
   have hb := hI.b
   rw [hK] at h1
   rw [hH] at h2
   obtain ⟨A, hA⟩ : ∃ A, A = K64.map v32 := ⟨_, rfl⟩
   obtain ⟨B, hB⟩ : ∃ B, B = H8.map v32 := ⟨_, rfl⟩
   have la : A.length = 64 := by rw [hA]; simp [K64, ← HL.out, HLEN.out]
   have lb : B.length = 8 := by rw [hB]; simp [H8, ← HL.out, HLEN.out]
   have oa : ∀ v ∈ A, v.oneCell' = true := by rw [hA]; intro v hv; obtain ⟨x, _, rfl⟩ := List.mem_map.1 hv; rfl
   have ob : ∀ v ∈ B, v.oneCell' = true := by rw [hB]; intro v hv; obtain ⟨x, _, rfl⟩ := List.mem_map.1 hv; rfl
   rw [← hA] at h1
   rw [← hB] at h2
   have HA := Lib.hid hA
   have HB := Lib.hid hB
   have LA := Lib.hid la
   have LB := Lib.hid lb
   have OA := Lib.hid oa
   have OB := Lib.hid ob
   clear hA hB la lb oa ob hK hH hI C
   go_wp2_with fail
   refine Hv.region 4 (fun wx => Li.Blk wx n A 125 ∧ Li.Blk wx (n + 1) B 126 ∧ Below n w wx) (fun _ _ => True) (fun | 2 => some Hv.unit | 3 => some Hv.unit | _ => none) (fun _ => []) (by kernel_rfl) (by kernel_rfl) ?_ ⟨h1, h2, hb.drew⟩ ?_
   ·intro i m hm v wa wb hR hv
    split at hm <;> cases hm <;> trivial
   ·change Hv.HW _ _ _ _ _ _ _ [0, 1, 2, 3] _ _
    refine Hv.pure (v := .agg A.toArray) (by rfl) (by rfl) (by rfl) (fun wx hS => Hv.exec_load_blk (by rfl) (by rfl) hS.1 Tryz.underlying125 rfl (by rw [LA.out]; kernel_rfl)) ?_
    (try simp only [Act.put, List.setIfInBounds_toArray, List.set_cons_zero, List.set_cons_succ])
    refine Hv.pure (v := .agg B.toArray) (by rfl) (by rfl) (by rfl) (fun wx hS => Hv.exec_load_blk (by rfl) (by rfl) hS.2.1 Tryz.underlying126 rfl (by rw [LB.out]; kernel_rfl)) ?_
    (try simp only [Act.put, List.setIfInBounds_toArray, List.set_cons_zero, List.set_cons_succ])
    refine Hv.noisy (m := Hv.unit) (by rfl) (by rfl) (by rfl) Hv.unit_ex (fun wx hS _ => Hv.gives_store_blk (by rfl) (by rfl) (by rfl) hS.1 rfl (by rw [LA.out]; kernel_rfl) OA.out ⟨⟨hS.1.setAll rfl, hS.2.1.setCellsOther (by omega) _ _, Li.below_setCells _ _ _ _ hS.2.2 (by omega)⟩, trivial, rfl, trivial⟩) (fun v hv => ?_)
    obtain rfl := hv
    (try simp only [Act.put])
    refine Hv.noisy (m := Hv.unit) (by rfl) (by rfl) (by rfl) Hv.unit_ex (fun wx hS _ => Hv.gives_store_blk (by rfl) (by rfl) (by rfl) hS.2.1 rfl (by rw [LB.out]; kernel_rfl) OB.out ⟨⟨hS.1.setCellsOther (by omega) _ _, hS.2.1.setAll rfl, Li.below_setCells _ _ _ _ hS.2.2 (by omega)⟩, trivial, rfl, trivial⟩) (fun v hv => ?_)
    obtain rfl := hv
    (try simp only [Act.put])
    refine Hv.done (fun wx hS _ => ?_)
    simp only [List.drop_succ_cons, List.drop_nil]
    go_wp2_with fail
    refine bodyPost_ret (Li.results_blk2 (by rfl) _ (by rfl) (by rfl) hS.1 hS.2.1 Tryz.underlying125 rfl (by rw [LA.out]; kernel_rfl) Tryz.underlying126 rfl (by rw [LB.out]; kernel_rfl)) rfl ⟨?_, ?_⟩
    ·rw [HA.out, HB.out]
    ·rw [← HN.out]; exact hS.2.2
end Sha
end Go.Proofs.YtakdoijemopejaaGreat


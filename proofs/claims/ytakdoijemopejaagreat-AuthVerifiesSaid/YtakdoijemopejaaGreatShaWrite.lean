/- The walk of Digest.Write. -/
import Derived.Test.YtakdoijemopejaaGreatShaAbs
import Derived.Test.YtakdoijemopejaaGreatBaseA
set_option maxRecDepth 100000
set_option linter.unusedSimpArgs false
set_option linter.unusedVariables false
namespace Go.Proofs.YtakdoijemopejaaGreat
open Go.RowKit
namespace Sha
open Bv (n8 n16 n32 n64)
attribute [local irreducible] K64 H8 stepL
/-- The chain over the first i blocks. -/
def chN (M : List (BitVec 8)) : Nat → List (BitVec 32)
 | 0 => H8
 | i + 1 => stepL K64 (chN M i) ((M.drop (64 * i)).take 64)
theorem chN_length (M : List (BitVec 8)) (i : Nat) : (chN M i).length = 8 := by
 induction i with
 | zero => exact H8_length
 | succ i ih => rw [chN]; exact stepL_length _ _ _ ih
theorem chN_append (M p : List (BitVec 8)) (i : Nat) (h : 64 * i ≤ M.length) : chN (M ++ p) i = chN M i := by
 induction i with
 | zero => rfl
 | succ i ih =>
  rw [chN, chN, ih (by omega), List.drop_append_of_le_length (by omega), List.take_append_of_le_length (by rw [List.length_drop]; omega)]
attribute [local irreducible] chN
structure DgC (w : World) (D : Nat) (r : Option Nat) (M : List (BitVec 8)) (j : Nat) (s k : List (BitVec 32)) (A : Option Addr) (c : Nat) : Prop where
 d : Li.Blk w D (chW s k (decide (0 < j)) (.slice A (M.length - 64 * j) c) (.int .i64 (M.length : Nat))) 135
 o : Li.Os w 5 r A c ((M.drop (64 * j)).map v8)
 hs : s.length = 8
 hk : k.length = 64
 hrd : 0 < j → k = K64 ∧ s = chN M j
 le : 64 * j ≤ M.length
/-- The digest D has taken j blocks of the message M; what is left lies in block r. -/
def DgI (w : World) (D : Nat) (r : Option Nat) (M : List (BitVec 8)) (j : Nat) : Prop := ∃ s k A c, DgC w D r M j s k A c
theorem DgC.ne {w : World} {D : Nat} {r : Option Nat} {M : List (BitVec 8)} {j : Nat} {s k : List (BitVec 32)} {A : Option Addr} {c : Nat} (h : DgC w D r M j s k A c) : r ≠ some D := h.o.ne h.d (by decide)
theorem DgC.fr {w w' : World} {D : Nat} {r : Option Nat} {M : List (BitVec 8)} {j : Nat} {s k : List (BitVec 32)} {A : Option Addr} {c : Nat} {X : Nat → Prop} (h : DgC w D r M j s k A c) (f : Li.Fr X w w') (hD : ¬ X D) (hr : ∀ g, r = some g → ¬ X g) : DgC w' D r M j s k A c :=
 ⟨h.d.fr f hD, h.o.fr f hr, h.hs, h.hk, h.hrd, h.le⟩
theorem DgI.fr {w w' : World} {D : Nat} {r : Option Nat} {M : List (BitVec 8)} {j : Nat} {X : Nat → Prop} (h : DgI w D r M j) (f : Li.Fr X w w') (hD : ¬ X D) (hr : ∀ g, r = some g → ¬ X g) : DgI w' D r M j := by
 obtain ⟨s, k, A, c, h⟩ := h
 exact ⟨s, k, A, c, h.fr f hD hr⟩
/-- A digest that has taken M. -/
def Dg (w : World) (D : Nat) (r : Option Nat) (M : List (BitVec 8)) : Prop := DgI w D r M (M.length / 64)
theorem DgC.step {w : World} {D : Nat} {r : Option Nat} {M : List (BitVec 8)} {j : Nat} {s k : List (BitVec 32)} {A : Option Addr} {c : Nat} (h : DgC w D r M j s k A c) (hge : 64 * (j + 1) ≤ M.length) {w' : World}
  (hw : w.grownBy w' (some D)) (hd : Li.Blk w' D (chW (stepL K64 (if decide (0 < j) then s else H8) ((M.drop (64 * j)).take 64)) K64 true (.slice A (M.length - 64 * j) c) (.int .i64 (M.length : Nat))) 135) :
  ∃ r', DgC (w'.setCell ⟨D, 73, none⟩ (.slice (if c = 64 then A else A.map (·.add 64)) (M.length - 64 * (j + 1)) (c - 64))) D r' M (j + 1) (chN M (j + 1)) K64 (if c = 64 then A else A.map (·.add 64)) (c - 64) ∧ (r' = r ∨ r' = none) := by
 have ho : Li.Os w' 5 r A c ((M.drop (64 * j)).map v8) := h.o.of_block fun g hg => hw.block g (by have := h.o; subst hg; exact this.lt) (by rw [← hg]; exact h.ne)
 obtain ⟨r', hr, hrr⟩ := ho.from_ 64 (by simp; omega)
 have e1 : ((M.drop (64 * j)).map v8).drop 64 = (M.drop (64 * (j + 1))).map v8 := by
  rw [← List.map_drop, List.drop_drop]; congr 2
 rw [e1] at hr
 have hs : stepL K64 (if decide (0 < j) then s else H8) ((M.drop (64 * j)).take 64) = chN M (j + 1) := by
  rw [chN]
  by_cases hj : 0 < j
  ·rw [if_pos (by simpa using hj), (h.hrd hj).2]
  ·have : j = 0 := by omega
   subst this
   rw [if_neg (by simp), chN]
 rw [hs] at hd
 have hne : r' ≠ some D := by rcases hrr with rfl | rfl; exact h.ne; simp
 refine ⟨r', ⟨?_, ?_, chN_length _ _, K64_length, fun _ => ⟨rfl, rfl⟩, hge⟩, hrr⟩
 ·have := hd.set 73 (.slice (if c = 64 then A else A.map (·.add 64)) (M.length - 64 * (j + 1)) (c - 64))
  rw [chW_set73 (chN_length _ _) K64_length] at this
  simpa using this
 ·exact hr.of_block fun g hg => heap_setCell_other w' _ g _ (fun e => hne (by rw [hg]; exact congrArg some e))
set_option maxHeartbeats 4000000 in
theorem write_any (D : Nat) (r : Option Nat) (M p : List (BitVec 8)) (B : Option Addr) (n cap : Nat) (hn : n = p.length) (hlen : M.length + p.length ≤ 1099511627776) (w : World) (hD : Dg w D r M) (hB : Li.Rd w B (p.map v8)) (hBD : ∀ a, B = some a → p ≠ [] → a.block ≠ D) :
  Calls Tryz.prog 70 #[.pointer (some ⟨D, 0, none⟩), .slice B n cap] w fun e w' => e = .returned (.int .i64 0) ∧ ∃ r', Dg w' D r' (M ++ p) ∧ Li.Fr (fun b => b = D ∨ r = some b) w w' ∧ (r' = r ∨ r' = none ∨ r' = some w.heap.size) := by
 obtain ⟨s, k, A, c, h⟩ := hD
 obtain ⟨j, hj⟩ : ∃ j, j = M.length / 64 := ⟨_, rfl⟩
 rw [← hj] at h
 have hne := h.ne
 have hDl := h.d.lt
 have c73 := (h.d.cell 73).trans (chW_73 h.hs h.hk _ _ _)
 have c74 := (h.d.cell 74).trans (chW_74 h.hs h.hk _ _ _)
 have f73 := h.d.frozen 73
 have f74 := h.d.frozen 74
 obtain ⟨m, hm⟩ : ∃ m, m = M.length := ⟨_, rfl⟩
 have HM := Lib.hid hm
 have hle : (m : Int) + (n : Int) ≤ 1099511627776 := by rw [hn, hm]; omega
 have hw64 : IntKind.i64.wrap ((m : Int) + (n : Int)) = (m : Int) + (n : Int) := IntWalk.i64_in _ (by omega)
 rw [← hm] at c73 c74
 have hlr : m - 64 * j = ((M.drop (64 * j)).map v8).length := by simp [hm]
 have HLR := Lib.hid hlr
 have hnp : n = (p.map v8).length := by simp [hn]
 have HNP := Lib.hid hnp
 have hle2 : m - 64 * j + n ≤ 70368744177664 := by omega
 -- behind the count's store
 have d1 : Li.Blk (w.setCell ⟨D, 74, none⟩ (.int .i64 ((m : Int) + (n : Int)))) D (chW s k (decide (0 < j)) (.slice A (m - 64 * j) c) (.int .i64 ((m : Int) + (n : Int)))) 135 := by
  have := h.d.set 74 (.int .i64 ((m : Int) + (n : Int)))
  rw [chW_set74 h.hs h.hk, ← hm] at this
  exact this
 have o1 : Li.Os (w.setCell ⟨D, 74, none⟩ (.int .i64 ((m : Int) + (n : Int)))) 5 r A c ((M.drop (64 * j)).map v8) :=
  h.o.of_block fun g hg => heap_setCell_other w _ g _ (fun e => hne (by rw [hg]; exact congrArg some e))
 have F1 : Li.Fr (fun b => b = D ∨ r = some b) w (w.setCell ⟨D, 74, none⟩ (.int .i64 ((m : Int) + (n : Int)))) := (Li.Fr.refl _ _).setCell (.inl rfl) _ _
 have B1 : Li.Rd (w.setCell ⟨D, 74, none⟩ (.int .i64 ((m : Int) + (n : Int)))) B (p.map v8) := hB.fr ((Li.Fr.refl (fun b => b = D) w).setCell rfl _ _) (fun a ha hp => hBD a ha (by rintro rfl; exact hp rfl))
 have D1 := Lib.hid d1
 have O1 := Lib.hid o1
 have FF := Lib.hid F1
 have BB := Lib.hid B1
 have H := Lib.hid h
 have HNE := Lib.hid hne
 clear d1 o1 F1 B1 h hB hBD hne hnp hlr hj hm
 have HN := Lib.hid hn
 clear hn
 have HL := Lib.hid hlen
 clear hlen
 go_enter Tryz.func70, Tryz.ntmps70
 go_wp2_with (refine Li.wpList_append_os (n := m - 64 * j) (m := n) (z := .int .u8 0) rfl _ _ rfl Tryz.underlying22 info5 rfl (by rfl) (by rfl) O1.out BB.out (Li.v8_one p) HLR.out HNP.out hle2 ?_; intro A1 c1 r1 w1 h1 h2 h3; have d2 := D1.out.of_block (h2.block D (by simpa using hDl) (fun e => HNE.out e.symm)); have c73b := (d2.cell 73).trans (chW_73 H.out.hs H.out.hk _ _ _); have f73b := d2.frozen 73; have D2 := Lib.hid d2; have O2 := Lib.hid h1; have G2 := Lib.hid h2; have R2 := Lib.hid h3; clear d2 h1 h2 h3)
 obtain ⟨N, hNN⟩ : ∃ N, N = (M ++ p).length := ⟨_, rfl⟩
 have I0 : DgC (w1.setCell ⟨D, 73, none⟩ (.slice A1 (m - 64 * j + n) c1)) D r1 (M ++ p) j s k A1 c1 ∧ Li.Fr (fun b => b = D ∨ r = some b) w (w1.setCell ⟨D, 73, none⟩ (.slice A1 (m - 64 * j + n) c1)) := by
  have hD2 := D2.out
  have hO2 := O2.out
  have hle := H.out.le
  have hn1 : r1 ≠ some D := hO2.ne hD2 (by decide)
  have e1 : m - 64 * j + n = (M ++ p).length - 64 * j := by rw [HM.out, HN.out, List.length_append]; omega
  have e2 : (m : Int) + (n : Int) = (((M ++ p).length : Nat) : Int) := by rw [HM.out, HN.out, List.length_append]; omega
  have e3 : (M.drop (64 * j)).map v8 ++ p.map v8 = ((M ++ p).drop (64 * j)).map v8 := by rw [List.drop_append_of_le_length hle, List.map_append]
  rw [e3] at hO2
  refine ⟨⟨?_, ?_, H.out.hs, H.out.hk, ?_, by rw [List.length_append]; omega⟩, ?_⟩
  ·have := hD2.set 73 (.slice A1 (m - 64 * j + n) c1)
   rw [chW_set73 H.out.hs H.out.hk, e1, e2] at this
   rw [e1]
   exact this
  ·exact hO2.of_block fun g hg => heap_setCell_other w1 _ g _ (fun e => hn1 (by rw [hg]; exact congrArg some e))
  ·intro h0
   rw [chN_append M p j hle]
   exact H.out.hrd h0
  ·exact ((FF.out.trans (Li.Fr.grown (X := fun b => r = some b) G2.out (fun g hg => hg)) (fun b _ hb => .inr hb))).setCell (.inl rfl) _ _
 have hj0 : 64 * j ≤ N := by rw [hNN, List.length_append]; have := H.out.le; omega
 have hR2 : r1 = r ∨ r1 = some w.heap.size := by have := R2.out; simpa using this
 have hNb : N ≤ 1099511627776 := by rw [hNN, List.length_append]; exact HL.out
 obtain ⟨Q, hQ⟩ : ∃ Q, Q = M ++ p := ⟨_, rfl⟩
 have HQ := Lib.hid hQ
 rw [← hQ] at I0 hNN
 have HNN := Lib.hid hNN
 have J0 := Lib.hid I0
 have HR2 := Lib.hid hR2
 clear hQ hNN I0 hR2 D1 O1 FF BB H HNE HM HN HL HLR HNP D2 O2 G2 R2 hle hle2 hw64 c73 c74 f73 f74 c73b f73b
 go_loopg [] (N - 64 * j) (fun gh wr => ∃ i, gh = N - 64 * i ∧ 64 * i ≤ N ∧ Hid (∃ r' s k A c, DgC wr D r' Q i s k A c ∧ (r' = r1 ∨ r' = none) ∧ Li.Fr (fun b => b = D ∨ r = some b) w wr))
 case atStart => exact ⟨j, rfl, hj0, Lib.hid ⟨r1, s, k, A1, c1, J0.out.1, .inl rfl, J0.out.2⟩⟩
 case round =>
  clear hj0 J0
  obtain ⟨i, rfl, hi, hI⟩ := hrel
  obtain ⟨r', s', k', A', c', hC, hrr, hF⟩ := hI.out
  clear hI
  have hcN : Q.length = N := HNN.out.symm
  by_cases hge : 64 ≤ N - 64 * i
  ·have hx : ((Q.drop (64 * i)).map v8) ≠ [] := by
    intro h; have := congrArg List.length h; simp [hcN] at this; omega
   obtain ⟨g, off, rfl, hgl, hcell⟩ := hC.o.rd.cells hx
   have c73 := (hC.d.cell 73).trans (chW_73 hC.hs hC.hk _ _ _)
   rw [hcN] at c73
   have hgD : g ≠ D := by
    intro e; subst e
    rcases hC.o with ⟨_, h, _⟩ | ⟨g', _, _, h1, h2, _⟩
    ·exact hx h
    ·injection h1 with h1; injection h1 with h1; exact hC.ne (by rw [h2, h1])
   have hc64 : 64 ≤ c' := by have := hC.o.le; simp [hcN] at this; omega
   have hcut1 : ∀ wx, (Instr.sliceAt 22 (.slice (some ⟨g, off, none⟩) (N - 64 * i) c') none (some (.int .i64 64)) none).run Tryz.prog wx = .ok (.slice (some ⟨g, off, none⟩) 64 c') wx := fun wx => Li.cut_hi (k := 64) Tryz.underlying22 (by kernel_rfl) _ _ _ hc64 wx
   obtain ⟨A2, hA2⟩ : ∃ A2, A2 = (if c' = 64 then some ⟨g, off, none⟩ else (some ⟨g, off, none⟩ : Option Addr).map (·.add 64)) := ⟨_, rfl⟩
   have HA2 := Lib.hid hA2
   have hcut2 : ∀ wx, (Instr.sliceAt 22 (.slice (some ⟨g, off, none⟩) (N - 64 * i) c') (some (.int .i64 64)) none none).run Tryz.prog wx = .ok (.slice A2 (N - 64 * i - 64) (c' - 64)) wx := fun wx => by rw [hA2]; exact Li.cut_lo (k := 64) Tryz.underlying22 (by kernel_rfl) _ _ _ hge wx
   have hgei : (64 : Int) ≤ ((N - 64 * i : Nat) : Int) := by omega
   have hr0 : wr.rangeAt g off (((Q.drop (64 * i)).take 64).map v8) := fun q u hu => by
    have hq : q < 64 := by have := (List.getElem?_eq_some_iff.1 hu).1; simp at this; omega
    rw [hcell q (by simp [hcN]; omega)]
    rw [List.map_take, List.getElem?_take_of_lt hq] at hu
    exact hu
   have AB := Lib.hid (absorb_any D g off c' s' k' (decide (0 < i)) ((Q.drop (64 * i)).take 64) (.slice (some ⟨g, off, none⟩) (Q.length - 64 * i) c') (.int .i64 (Q.length : Nat)) hC.hs hC.hk (fun h => (hC.hrd (by simpa using h)).1) (by simp [hcN]; omega) hgD wr.drew hC.d hr0)
   have HC := Lib.hid hC
   have HF := Lib.hid hF
   have HCN := Lib.hid hcN
   clear hC hF hx hcell hcN hr0 hA2
   go_wp2_with fail
   go_still_tail 8, (by kernel_rfl)
   go_wp2_with fail
   refine Calls.mono AB.out ?_
   rintro e w3 ⟨rfl, hd3, hG30⟩
   have hG3 : wr.grownBy w3 (some D) := ⟨hG30.os, hG30.tape, hG30.output, hG30.size, hG30.block⟩
   clear hG30
   have S3 := Lib.hid (HC.out.step (by rw [HCN.out]; omega) hG3 hd3)
   have c73b := (hd3.cell 73).trans (chW_73 (stepL_length _ _ _ (by split; exact HC.out.hs; exact H8_length)) K64_length _ _ _)
   rw [HCN.out] at c73b
   have f73b := hd3.frozen 73
   have F3 := Lib.hid ((HF.out.trans (Li.Fr.grown (X := fun b => b = D) hG3 (fun g hg => by injection hg with hg; exact hg.symm)) (fun b _ hb => .inl hb)).setCell (g := D) (.inl rfl) 73 (.slice A2 (N - 64 * i - 64) (c' - 64)))
   clear hd3 hG3 AB c73
   go_wp2_with fail
   have e64 : N - 64 * i - 64 = N - 64 * (i + 1) := by omega
   obtain ⟨r4, hC4, hr4⟩ := S3.out
   rw [HCN.out, ← HA2.out] at hC4
   have C4 := Lib.hid hC4
   clear hC4 c73b f73b hcut1 hcut2
   go_roundg (N - 64 * (i + 1))
   case measure => omega
   case rel =>
    refine ⟨i + 1, rfl, by omega, Lib.hid ⟨r4, _, _, _, _, by rw [e64]; exact C4.out, ?_, F3.out⟩⟩
    rcases hr4 with rfl | rfl
    ·exact hrr
    ·exact .inr rfl
  ·have hge' : ¬ (64 : Int) ≤ ((N - 64 * i : Nat) : Int) := by omega
   have c73 := (hC.d.cell 73).trans (chW_73 hC.hs hC.hk _ _ _)
   rw [hcN] at c73
   have ei : i = Q.length / 64 := by rw [hcN]; omega
   have hDg : Dg wr D r' (M ++ p) := by
    rw [← HQ.out]
    unfold Dg
    rw [← ei]
    exact ⟨s', k', A', c', hC⟩
   have PD := Lib.hid hDg
   have PF := Lib.hid hF
   clear hC hF hDg ei hge
   go_wp2_with fail
   go_ret
   refine ⟨rfl, r', PD.out, PF.out, ?_⟩
   rcases hrr with rfl | rfl
   ·rcases HR2.out with h | h
    ·exact .inl h
    ·exact .inr (.inr h)
   ·exact .inr (.inl rfl)
end Sha
end Go.Proofs.YtakdoijemopejaaGreat


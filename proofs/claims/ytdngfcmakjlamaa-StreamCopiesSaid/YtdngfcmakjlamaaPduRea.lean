/- Layer 35: the readers in one contract. No condition but Go's own limits. -/
import Derived.Test.YtdngfcmakjlamaaPduRead
import Derived.Test.YtdngfcmakjlamaaPduDec
set_option linter.unusedSimpArgs false
set_option linter.unusedVariables false
namespace Go.Proofs.Ytdngfcmakjlamaa
open Go Go.RowKit
namespace Pd
open Se (St At Reads Cell)
open Li (v8 v8_one Rd Blk Fr)
open Bv (n8 n16 n32 n64)
variable {w0 w : World} {X : List Nat} {L : List At}
attribute [local irreducible] Calls
/-- What a reader gives: what is left, the entry as a slice of its own. -/
def RGive (k : Nat) (s : List (BitVec 8)) (h : Hd) (gp : Nat) (w0 : World) (X : List Nat) (L0 L : List At) (e : Ending) (w' : World) : Prop :=
 ∃ A rc r EA ec, ∃ Q : List At, e = .returned (.slice A (rdR k s).length rc) ∧ Reads (Q ++ L0) A ((rdR k s).map v8) ∧
  St w0 X (.blk gp 41 (pc (rdH k s h) EA (rdE k s).length ec none 0 0) :: .own 1 r EA (rdE k s).length ec ((rdE k s).map v8) :: (Q ++ L)) w'
theorem rea_fn {k : Nat} (hk : hdr k ≠ 0) : ∃ n, reaF k = fnv n ∧ (n = 77 ∨ n = 81 ∨ n = 83 ∨ n = 85) ∧
  ∀ {w0 w : World} {X : List Nat} {L0 L : List At} (h : Hd) (s : List (BitVec 8)) {gp g off m c : Nat} (_ : St w0 X (.blk gp 41 (pc h none 0 0 none 0 0) :: L) w) (_ : m = s.length) (_ : m = hdr k - 8) (_ : m ≤ c) (_ : Reads L0 (some ⟨g, off, none⟩) (s.map v8)) (_ : ∀ a ∈ L0, a ∈ L),
   Calls Try.prog n #[.slice (some ⟨g, off, none⟩) m c, .pointer (some ⟨gp, 0, none⟩)] w (RGive k s h gp w0 X L0 L) := by
 have sw : ∀ {a b : At} {M : List At} {w0 w : World} {X : List Nat}, St w0 X (a :: b :: M) w → St w0 X (b :: a :: M) w := fun h => h.perm (List.Perm.swap _ _ _)
 have hc := hdr_cases hk
 have key : (k = 0 ∨ k = 1) ∨ (k = 2 ∨ k = 3) ∨ (k = 4 ∨ k = 5) ∨ (k = 6 ∨ k = 7 ∨ k = 9) := by omega
 rcases key with h | h | h | h
 ·refine ⟨77, by rcases h with rfl | rfl <;> rfl, .inl rfl, ?_⟩
  intro w0 w X L0 L hd s gp g off m c hs hm h8 hc hS hsub
  have h120 : m = 120 := by rw [h8]; rcases h with rfl | rfl <;> rfl
  subst h120
  refine (readInit_st hs rfl s hm rfl hc (hS.mono hsub)).mono ?_
  rintro e w' ⟨r, A, c', h1, h2⟩
  have e1 : rdR k s = s.take 2 ++ s.drop 8 := by rcases h with rfl | rfl <;> rfl
  have e2 : rdE k s = [] := by rcases h with rfl | rfl <;> rfl
  have e3 : rdH k s hd = { hd with al := s.getD 2 0#8, dg := s.getD 3 0#8, mx := w32 (sub s 4 8) } := by rcases h with rfl | rfl <;> rfl
  refine ⟨A, c', none, none, 0, [.own 1 r A 114 c' ((s.take 2 ++ s.drop 8).map v8)], ?_, ?_, ?_⟩
  ·rw [h1, e1]; congr 2; simp; omega
  ·rw [e1]; exact Reads.own 0 rfl
  ·rw [e2, e3]
   have := (h2.nil_own 1 none).perm (List.Perm.trans (List.Perm.cons _ (List.Perm.swap _ _ _)) (List.Perm.swap _ _ _))
   exact this
 ·refine ⟨81, by rcases h with rfl | rfl <;> rfl, .inr (.inl rfl), ?_⟩
  intro w0 w X L0 L hd s gp g off m c hs hm h8 hc hS hsub
  have h16 : m = 16 := by rw [h8]; rcases h with rfl | rfl <;> rfl
  subst h16
  refine (readEnd_st hs rfl s hm rfl hc (hS.mono hsub)).mono ?_
  rintro e w' ⟨h1, h2⟩
  have e1 : rdR k s = s.drop 6 := by rcases h with rfl | rfl <;> rfl
  have e2 : rdE k s = [] := by rcases h with rfl | rfl <;> rfl
  have e3 : rdH k s hd = { hd with st := w16 (s.take 2), nf := w32 (sub s 2 6) } := by rcases h with rfl | rfl <;> rfl
  refine ⟨some ⟨g, off + 6, none⟩, c - 6, none, none, 0, [], ?_, ?_, ?_⟩
  ·rw [h1, e1]; congr 2; simp; omega
  ·rw [e1, List.map_drop]; exact hS.at 6
  ·rw [e2, e3]; exact sw (h2.nil_own 1 none)
 ·refine ⟨83, by rcases h with rfl | rfl <;> rfl, .inr (.inr (.inl rfl)), ?_⟩
  intro w0 w X L0 L hd s gp g off m c hs hm h8 hc hS hsub
  have hle : m ≤ 70368744177664 := by rw [h8]; rcases h with rfl | rfl <;> decide
  refine (readEntry_st hs rfl s hm hle (hS.mono hsub)).mono ?_
  rintro e w' ⟨r, B, c', h1, h2⟩
  have e1 : rdR k s = [] := by rcases h with rfl | rfl <;> rfl
  have e2 : rdE k s = s := by rcases h with rfl | rfl <;> rfl
  have e3 : rdH k s hd = hd := by rcases h with rfl | rfl <;> rfl
  refine ⟨none, 0, r, B, c', [], ?_, ?_, ?_⟩
  ·rw [h1, e1]; rfl
  ·rw [e1]; exact Reads.nil
  ·rw [e2, e3, ← hm]; exact sw h2
 ·refine ⟨85, by rcases h with rfl | rfl | rfl <;> rfl, .inr (.inr (.inr rfl)), ?_⟩
  intro w0 w X L0 L hd s gp g off m c hs hm h8 hc hS hsub
  have h16 : m = 16 := by rw [h8]; rcases h with rfl | rfl | rfl <;> rfl
  subst h16
  refine (readData_st hs rfl s hm rfl hc (hS.mono hsub)).mono ?_
  rintro e w' ⟨h1, h2⟩
  have e1 : rdR k s = s.drop 12 := by rcases h with rfl | rfl | rfl <;> rfl
  have e2 : rdE k s = [] := by rcases h with rfl | rfl | rfl <;> rfl
  have e3 : rdH k s hd = { hd with id := w16 (s.take 2), tg := w16 (sub s 2 4), of := w32 (sub s 4 8), ln := w32 (sub s 8 12) } := by rcases h with rfl | rfl | rfl <;> rfl
  refine ⟨some ⟨g, off + 12, none⟩, c - 12, none, none, 0, [], ?_, ?_, ?_⟩
  ·rw [h1, e1]; congr 2; simp; omega
  ·rw [e1, List.map_drop]; exact hS.at 12
  ·rw [e2, e3]; exact sw (h2.nil_own 1 none)
end Pd
end Go.Proofs.Ytdngfcmakjlamaa


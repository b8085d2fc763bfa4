/- Layer 38's law AuthCompletes. No condition but Go's own limits. -/
import Derived.Test.YtakdoijemopejaaGreatAuKn
set_option linter.unusedSimpArgs false
set_option linter.unusedVariables false
namespace Go.Proofs.YtakdoijemopejaaGreat
open Go Go.RowKit
namespace Au
open Se (St At Reads Cell)
open Li (v8 v8_one Rd Blk Fr)
open Bv (n8 n16 n32 n64)
variable {w0 w : World} {X : List Nat} {L M : List At}
attribute [local irreducible] Calls
theorem verNewF (hs : St w0 X L w) (p : Pn) (A : Option Addr) (c : Nat) (hr : Reads L A (p.sec.map v8)) (hsh : short p = true) (hv : valid p.py = false) :
  Calls Tryz.prog 8 #[.slice A p.sec.length c, .string p.hs, .string p.sb] w fun e w' => e = .returned (.tuple #[.pointer none, .int .i64 2]) ∧ St w0 X L w' := by
 unfold short at hsh
 simp only [Bool.and_eq_true, decide_eq_true_eq] at hsh
 refine (verNew_st hs p A c hr hsh.1.2 hsh.2 (by omega)).mono ?_
 rintro e w' (⟨_, rfl, h⟩ | ⟨h1, _⟩)
 ·exact ⟨rfl, h⟩
 ·rw [hv] at h1; cases h1
theorem verNewT (hs : St w0 X L w) (p : Pn) (A : Option Addr) (c : Nat) (hr : Reads L A (p.sec.map v8)) (hsh : short p = true) (hv : valid p.py = true) :
  Calls Tryz.prog 8 #[.slice A p.sec.length c, .string p.hs, .string p.sb] w fun e w' => ∃ g A2 c2, e = .returned (.tuple #[.pointer (some ⟨g, 0, none⟩), .int .i64 0]) ∧ St w0 X (.blk g 69 (vcl { p := p } A2 c2) :: .rd A2 (p.sec.map v8) :: L) w' := by
 unfold short at hsh
 simp only [Bool.and_eq_true, decide_eq_true_eq] at hsh
 refine (verNew_st hs p A c hr hsh.1.2 hsh.2 (by omega)).mono ?_
 rintro e w' (⟨h1, _⟩ | ⟨_, h⟩)
 ·rw [hv] at h1; cases h1
 ·exact h
theorem proNewF (hs : St w0 X L w) (p : Pn) (A : Option Addr) (c : Nat) (hr : Reads L A (p.sec.map v8)) (hsh : short p = true) (hv : valid p.py = false) :
  Calls Tryz.prog 18 #[.slice A p.sec.length c, .string p.hs, .string p.sb] w fun e w' => e = .returned (.tuple #[.pointer none, .int .i64 2]) ∧ St w0 X L w' := by
 unfold short at hsh
 simp only [Bool.and_eq_true, decide_eq_true_eq] at hsh
 refine (proNew_st hs p A c hr hsh.1.2 hsh.2 (by omega)).mono ?_
 rintro e w' (⟨_, rfl, h⟩ | ⟨h1, _⟩)
 ·exact ⟨rfl, h⟩
 ·rw [hv] at h1; cases h1
theorem proNewT (hs : St w0 X L w) (p : Pn) (A : Option Addr) (c : Nat) (hr : Reads L A (p.sec.map v8)) (hsh : short p = true) (hv : valid p.py = true) :
  Calls Tryz.prog 18 #[.slice A p.sec.length c, .string p.hs, .string p.sb] w fun e w' => ∃ g A2 c2, e = .returned (.tuple #[.pointer (some ⟨g, 0, none⟩), .int .i64 0]) ∧ St w0 X (.blk g 83 (vcl { p := p } A2 c2) :: .rd A2 (p.sec.map v8) :: L) w' := by
 unfold short at hsh
 simp only [Bool.and_eq_true, decide_eq_true_eq] at hsh
 refine (proNew_st hs p A c hr hsh.1.2 hsh.2 (by omega)).mono ?_
 rintro e w' (⟨h1, _⟩ | ⟨_, h⟩)
 ·rw [hv] at h1; cases h1
 ·exact h
theorem short_ok {p : Pn} (hsh : short p = true) (hv : valid p.py = true) : ({ p := p } : Vs).ok := by
 unfold short at hsh
 simp only [Bool.and_eq_true, decide_eq_true_eq] at hsh
 exact valid_ok hv hsh.1.2 hsh.2
end Au
end Go.Proofs.YtakdoijemopejaaGreat

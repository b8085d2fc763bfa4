/- Layer 28's laws: what they share. No condition but Go's own limits. Printed by wip/gen_zonelaw6.py. -/
import Derived.Test.YthpgkkfahiglnaaZoneLaw5
import Derived.Test.YthpgkkfahiglnaaZoneLawW
import Derived.Test.YthpgkkfahiglnaaZoneLawA
import Derived.Test.YthpgkkfahiglnaaZoneLawM
import Derived.Test.YthpgkkfahiglnaaZoneLawL
import Derived.Test.YthpgkkfahiglnaaZoneLawP
set_option linter.unusedSimpArgs false
set_option linter.unusedVariables false
namespace Go.Proofs.Ythpgkkfahiglnaa
open Go Go.RowKit
namespace Zo
open Se (St At Reads Cell)
open Li (Rd Blk Fr)
variable {w0 w : World} {X : List Nat} {L : List At}
attribute [local irreducible] Calls
theorem act_st {g cc : Nat} {z : Zs} {a : Addr} {r : Option Nat} {A : Option Addr} {ZI : List Value} (hs : St w0 X (pZ g z (some a) cc :: pL r (some a) cc z :: .rd A (ocs z.l) :: L) w) (ho : OkZ z) (hw : z.w < 1099511627776) (hz : RZ z A ZI) {wh zi off n : Int} (hn : n ≤ 9223372036854775807) :
  Calls Try.prog 22 #[.pointer (some ⟨g, 0, none⟩), .agg ZI.toArray, .agg #[.int .i64 wh, .int .i64 zi, .int .i64 off, .int .i64 n]] w fun e w' => True ∧ ActR w0 X L z e w' := by
 have h : (wh = 0 ∨ wh = 1 ∨ wh = 2 ∨ wh = 3) ∨ (wh = 4 ∨ wh = 5) ∨ wh = 6 ∨ (wh = 7 ∨ wh = 8 ∨ wh = 9) ∨ wh = 10 ∨ wh = 11 ∨ wh = 12 ∨ (wh < 0 ∨ 12 < wh) := by omega
 rcases h with h | h | h | h | h | h | h | h
 ·exact act_write hs ho hw hz hn h
 ·exact act_append hs ho hw hz hn h
 ·exact act_read hs ho hw hz hn h
 ·exact act_manage hs ho hw hz hn h
 ·exact act_manageAll hs ho hw hz hn h
 ·exact act_damage hs ho hw hz hn h
 ·exact act_power hs ho hw hz hn h
 ·exact act_copy hs ho hw hz hn h
theorem perm3 {a b c : At} {M L : List At} : (a :: b :: c :: (M ++ L)).Perm (M ++ (a :: b :: c :: L)) := List.perm_append_comm_assoc [a, b, c] M L
theorem is_M {g cc : Nat} {z : Zs} {a : Addr} {r : Option Nat} {A : Option Addr} {ZI : List Value} {M : List At} (hs : St w0 X (M ++ pZ g z (some a) cc :: pL r (some a) cc z :: .rd A (ocs z.l) :: L) w) (ho : OkZ z) (hz : RZ z A ZI) :
  Calls Try.prog 19 #[.pointer (some ⟨g, 0, none⟩), .agg ZI.toArray] w fun e w' => e = .returned (.bool true) ∧ St w0 X (M ++ pZ g z (some a) cc :: pL r (some a) cc z :: .rd A (ocs z.l) :: L) w' := by
 refine (is_st (hs.perm perm3.symm) ho hz).mono ?_
 rintro e w ⟨h1, h2⟩
 exact ⟨h1, h2.perm perm3⟩
structure Ac where
 wh : Int
 zi : Int
 off : Int
 n : Int
def ac (a : Ac) : List Value := [.int .i64 a.wh, .int .i64 a.zi, .int .i64 a.off, .int .i64 a.n]
theorem acs_row (l : List Ac) : ∀ (i : Nat) (h : i < l.length), ((l.flatMap ac).drop (i * 4)).take 4 = ac l[i] := by
 induction l with
 | nil => intro i h; simp at h
 | cons x l ih =>
  intro i h
  cases i with
  | zero => rfl
  | succ i =>
   rw [List.flatMap_cons]
   have e : (i + 1) * 4 = (ac x).length + i * 4 := by show (i + 1) * 4 = 4 + i * 4; omega
   rw [e, List.drop_append, Nat.add_sub_cancel_left, List.drop_eq_nil_of_le (by omega), List.nil_append]
   exact ih i (by simpa using h)
theorem acs_ne {l : List Ac} (h : 1 ≤ l.length) : l.flatMap ac ≠ [] := by
 cases l with
 | nil => simp at h
 | cons x l => simp [ac]
theorem row_ac {g o : Nat} {l : List Ac} (hr : Reads L (some ⟨g, o, none⟩) (l.flatMap ac)) {i : Nat} (h : i < l.length) : Reads L (some ⟨g, o + i * 4, none⟩) (ac l[i]) := by
 have h2 := (hr.at (i * 4)).take 4
 rwa [acs_row l i h] at h2
theorem cf_of {n sz cap mo ma : Int} (h : okC n sz cap mo ma = true) : ∃ c : Cf, n = c.n ∧ sz = c.sz ∧ cap = c.cap ∧ mo = c.mo ∧ ma = c.ma := by
 simp only [okC, decide_eq_true_eq] at h
 exact ⟨⟨n.toNat, sz.toNat, cap.toNat, mo.toNat, ma.toNat⟩, by dsimp only; omega, by dsimp only; omega, by dsimp only; omega, by dsimp only; omega, by dsimp only; omega⟩
end Zo
end Go.Proofs.Ythpgkkfahiglnaa


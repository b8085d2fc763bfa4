/- Layer 28's laws: act. No condition but Go's own limits. Printed by wip/gen_zonelaw4.py. -/
import Derived.Test.YthpgkkfahiglnaaZoneLaw3
import Derived.Test.YthpgkkfahiglnaaZoneR4
import Derived.Test.YthpgkkfahiglnaaZoneR8
set_option linter.unusedSimpArgs false
set_option linter.unusedVariables false
namespace Go.Proofs.Ythpgkkfahiglnaa
open Go Go.RowKit
namespace Zo
open Se (St At Reads Cell)
open Li (Rd Blk Fr)
variable {w0 w : World} {X : List Nat} {L : List At}
attribute [local irreducible] Calls
attribute [local go_sem] Gd.mv_true Gd.pk_or Gd.pk_and Gd.pk_true Gd.pk_false
theorem opens_le (z : Zs) (i : Nat) : (opensE z i).2 ≤ 255 := by
 unfold opensE
 split
 ·exact Nat.le_of_ble_eq_true rfl
 ·split
  ·exact Nat.le_of_ble_eq_true rfl
  ·split <;> exact Nat.le_of_ble_eq_true rfl
theorem put_le (z : Zs) (i n : Nat) : (putE z i n).2 ≤ 255 := by
 unfold putE
 split
 ·exact Nat.le_of_ble_eq_true rfl
 ·split
  ·exact Nat.le_of_ble_eq_true rfl
  ·split
   ·exact Nat.le_of_ble_eq_true rfl
   ·exact opens_le z i
theorem blkd_le (s : Nat) : blkd s ≤ 255 := by
 unfold blkd
 split
 ·decide
 ·split
  ·decide
  ·split <;> decide
theorem write_le (z : Zs) (x y : Int) : (writeE z x y).2 ≤ 255 := by
 unfold writeE
 split
 ·exact Nat.le_of_ble_eq_true rfl
 ·split
  ·exact Nat.le_of_ble_eq_true rfl
  ·split
   ·exact Nat.le_of_ble_eq_true rfl
   ·split
    ·exact blkd_le _
    ·split
     ·exact Nat.le_of_ble_eq_true rfl
     ·exact put_le _ _ _
theorem append_le (z : Zs) (x y : Int) : (appendE z x y).2.2 ≤ 255 := by
 unfold appendE
 split
 ·exact Nat.le_of_ble_eq_true rfl
 ·split
  ·exact Nat.le_of_ble_eq_true rfl
  ·split
   ·exact Nat.le_of_ble_eq_true rfl
   ·split
    ·exact blkd_le _
    ·split
     ·exact Nat.le_of_ble_eq_true rfl
     ·exact put_le _ _ _
theorem act_le (z : Zs) (i a : Nat) : (actE z i a).2 ≤ 255 := by
 unfold actE
 dsimp only
 split
 ·split <;> exact Nat.le_of_ble_eq_true rfl
 ·split
  ·exact Nat.le_of_ble_eq_true rfl
  ·split
   ·split
    ·exact Nat.le_of_ble_eq_true rfl
    ·split
     ·exact Nat.le_of_ble_eq_true rfl
     ·exact opens_le z i
   ·split
    ·exact Nat.le_of_ble_eq_true rfl
    ·split <;> exact Nat.le_of_ble_eq_true rfl
theorem manage_le (z : Zs) (i a : Int) : (manageE z i a).2 ≤ 255 := by
 unfold manageE
 split
 ·exact Nat.le_of_ble_eq_true rfl
 ·exact act_le _ _ _
theorem run_le (a : Nat) : ∀ (is : List Nat) (z : Zs), (runE a is z).2 ≤ 255
 | [], z => Nat.zero_le _
 | i :: is, z => by
  unfold runE
  split
  ·exact run_le a is _
  ·exact act_le _ _ _
theorem manageAll_le (z : Zs) (a : Int) : (manageAllE z a).2 ≤ 255 := by
 unfold manageAllE
 split
 ·exact Nat.le_of_ble_eq_true rfl
 ·split <;> exact run_le _ _ _
theorem read_le (z : Zs) (x y : Int) : readE z x y ≤ 255 := by
 unfold readE
 split
 ·decide
 ·split
  ·decide
  ·split <;> decide
theorem permB {a b : At} {M L : List At} : (M ++ (a :: b :: L)).Perm (a :: b :: (M ++ L)) := perm2.symm
theorem write_M {g cc : Nat} {z : Zs} {a : Addr} {r : Option Nat} {M : List At} (hs : St w0 X (M ++ pZ g z (some a) cc :: pL r (some a) cc z :: L) w) (ho : OkZ z) (hw : z.w < 1099511627776) (x y : Int) :
  Calls Try.prog 12 #[.pointer (some ⟨g, 0, none⟩), .int .i64 x, .int .i64 y] w fun e w' => e = .returned (.agg (stv (writeE z x y).2).toArray) ∧ ∃ a r c, St w0 X (M ++ pZ g (writeE z x y).1 (some a) c :: pL r (some a) c (writeE z x y).1 :: L) w' := by
 refine (write_st (hs.perm permB) ho hw x y).mono ?_
 rintro e w ⟨h1, a', r', c', h2⟩
 exact ⟨h1, a', r', c', h2.perm perm2⟩
theorem append_M {g cc : Nat} {z : Zs} {a : Addr} {r : Option Nat} {M : List At} (hs : St w0 X (M ++ pZ g z (some a) cc :: pL r (some a) cc z :: L) w) (ho : OkZ z) (hw : z.w < 1099511627776) (x y : Int) :
  Calls Try.prog 40 #[.pointer (some ⟨g, 0, none⟩), .int .i64 x, .int .i64 y] w fun e w' => e = .returned (.tuple #[iv (appendE z x y).2.1, .agg (stv (appendE z x y).2.2).toArray]) ∧ ∃ a r c, St w0 X (M ++ pZ g (appendE z x y).1 (some a) c :: pL r (some a) c (appendE z x y).1 :: L) w' := by
 refine (append_st (hs.perm permB) ho hw x y).mono ?_
 rintro e w ⟨h1, a', r', c', h2⟩
 exact ⟨h1, a', r', c', h2.perm perm2⟩
theorem manage_M {g cc : Nat} {z : Zs} {a : Addr} {r : Option Nat} {M : List At} (hs : St w0 X (M ++ pZ g z (some a) cc :: pL r (some a) cc z :: L) w) (ho : OkZ z) (x y : Int) :
  Calls Try.prog 18 #[.pointer (some ⟨g, 0, none⟩), .int .i64 x, .int .i64 y] w fun e w' => e = .returned (.agg (stv (manageE z x y).2).toArray) ∧ ∃ a r c, St w0 X (M ++ pZ g (manageE z x y).1 (some a) c :: pL r (some a) c (manageE z x y).1 :: L) w' := by
 refine (manage_st (hs.perm permB) ho x y).mono ?_
 rintro e w ⟨h1, a', r', c', h2⟩
 exact ⟨h1, a', r', c', h2.perm perm2⟩
theorem manageAll_M {g cc : Nat} {z : Zs} {a : Addr} {r : Option Nat} {M : List At} (hs : St w0 X (M ++ pZ g z (some a) cc :: pL r (some a) cc z :: L) w) (ho : OkZ z) (x : Int) :
  Calls Try.prog 28 #[.pointer (some ⟨g, 0, none⟩), .int .i64 x] w fun e w' => e = .returned (.agg (stv (manageAllE z x).2).toArray) ∧ ∃ a r c, St w0 X (M ++ pZ g (manageAllE z x).1 (some a) c :: pL r (some a) c (manageAllE z x).1 :: L) w' := by
 refine (manageAll_st (hs.perm permB) ho x).mono ?_
 rintro e w ⟨h1, a', r', c', h2⟩
 exact ⟨h1, a', r', c', h2.perm perm2⟩
theorem damage_M {g cc : Nat} {z : Zs} {a : Addr} {r : Option Nat} {M : List At} (hs : St w0 X (M ++ pZ g z (some a) cc :: pL r (some a) cc z :: L) w) (ho : OkZ z) (i : Int) (off : Bool) :
  Calls Try.prog 17 #[.pointer (some ⟨g, 0, none⟩), .int .i64 i, .bool off] w fun e w' => e = .returned (iv (damageE z i off).2) ∧ ∃ a r c, St w0 X (M ++ pZ g (damageE z i off).1 (some a) c :: pL r (some a) c (damageE z i off).1 :: L) w' := by
 by_cases hi : i < 0 ∨ z.l.length ≤ i
 ·have hd : damageE z i off = (z, 3) := by unfold damageE; rw [if_pos hi]
  rw [hd]
  refine (damage_no (hs.perm permB) ho hi off).mono ?_
  rintro e w ⟨h1, h2⟩
  exact ⟨h1, a, r, cc, h2.perm perm2⟩
 ·obtain ⟨j, rfl⟩ : ∃ j : Nat, i = (j : Int) := ⟨i.toNat, by omega⟩
  have hd : (damageE z (j : Int) off).2 = 0 := by unfold damageE; rw [if_neg hi]
  rw [hd]
  refine (damage_at (hs.perm permB) ho (by omega) off).mono ?_
  rintro e w ⟨h1, h2⟩
  exact ⟨h1, a, r, cc, h2.perm perm2⟩
theorem power_M {g cc : Nat} {z : Zs} {a : Addr} {r : Option Nat} {M : List At} (hs : St w0 X (M ++ pZ g z (some a) cc :: pL r (some a) cc z :: L) w) (ho : OkZ z) :
  Calls Try.prog 29 #[.pointer (some ⟨g, 0, none⟩)] w fun e w' => e = .returned (iv 0) ∧ ∃ a r c, St w0 X (M ++ pZ g (powerE z) (some a) c :: pL r (some a) c (powerE z) :: L) w' := by
 refine (power_st (hs.perm permB) ho).mono ?_
 rintro e w ⟨h1, h2⟩
 exact ⟨h1, a, r, cc, h2.perm perm2⟩
theorem read_M {g cc : Nat} {z : Zs} {a : Addr} {r : Option Nat} {M : List At} (hs : St w0 X (M ++ pZ g z (some a) cc :: pL r (some a) cc z :: L) w) (ho : OkZ z) (x y : Int) :
  Calls Try.prog 14 #[.pointer (some ⟨g, 0, none⟩), .int .i64 x, .int .i64 y] w fun e w' => e = .returned (.agg (stv (readE z x y)).toArray) ∧ St w0 X (M ++ pZ g z (some a) cc :: pL r (some a) cc z :: L) w' := by
 refine (read_st (hs.perm permB) ho x y).mono ?_
 rintro e w ⟨h1, h2⟩
 exact ⟨h1, h2.perm perm2⟩
theorem copy_M {g cc : Nat} {z : Zs} {a : Addr} {r : Option Nat} {M : List At} (hs : St w0 X (M ++ pZ g z (some a) cc :: pL r (some a) cc z :: L) w) (ho : OkZ z) :
  Calls Try.prog 24 #[.pointer (some ⟨g, 0, none⟩)] w fun e w' => ∃ g' a' r' c', e = .returned (.pointer (some ⟨g', 0, none⟩)) ∧ St w0 X (pZ g' z (some a') c' :: pL r' (some a') c' z :: (M ++ pZ g z (some a) cc :: pL r (some a) cc z :: L)) w' := by
 have h1 := ho.1
 have h2 := ho.2.1
 have h3 := ho.2.2.1
 refine (copy_st (hs.perm permB) (Reads.own 0 rfl) (by omega) (by omega)).mono ?_
 rintro e w ⟨g', a', r', c', h1, h2⟩
 refine ⟨g', a', r', c', h1, h2.perm ?_⟩
 exact List.Perm.cons _ (List.Perm.cons _ perm2)
theorem damage_le (z : Zs) (i : Int) (b : Bool) : (damageE z i b).2 ≤ 255 := by unfold damageE; split <;> exact Nat.le_of_ble_eq_true rfl
theorem appends_M {g cc : Nat} {z : Zs} {a : Addr} {r : Option Nat} {M : List At} (hs : St w0 X (M ++ pZ g z (some a) cc :: pL r (some a) cc z :: L) w) (ho : OkZ z) (hw : z.w < 1099511627776) (x y : Int) :
  Calls Try.prog 13 #[.pointer (some ⟨g, 0, none⟩), .int .i64 x, .int .i64 y, iv (appendE z x y).2.1, iv (appendE z x y).2.2] w fun e w' => e = .returned (.bool true) ∧ ∃ a r c, St w0 X (M ++ pZ g (appendE z x y).1 (some a) c :: pL r (some a) c (appendE z x y).1 :: L) w' := by
 refine (appends_gen (w0 := w0) (X := X) (k := (appendE z x y).2.2) (append_le z x y) (Φ := fun L' => ∃ a r c, L' = M ++ pZ g (appendE z x y).1 (some a) c :: pL r (some a) c (appendE z x y).1 :: L) ?_).mono ?_
 ·refine (append_M hs ho hw x y).mono ?_
  rintro e w ⟨h1, a', r', c', h2⟩
  exact ⟨h1, _, ⟨a', r', c', rfl⟩, h2⟩
 ·rintro e w ⟨h1, L', ⟨a', r', c', rfl⟩, h2⟩
  exact ⟨h1, a', r', c', h2⟩
def ActR (w0 : World) (X : List Nat) (L : List At) (z : Zs) (e : Ending) (w' : World) : Prop :=
 ∃ z' g' a' r' c' A' ZN, e = .returned (.tuple #[.pointer (some ⟨g', 0, none⟩), .agg ZN.toArray, .bool true]) ∧ Nx z z' ∧ RZ z' A' ZN ∧ St w0 X (pZ g' z' (some a') c' :: pL r' (some a') c' z' :: .rd A' (ocs z'.l) :: L) w'
end Zo
end Go.Proofs.Ythpgkkfahiglnaa


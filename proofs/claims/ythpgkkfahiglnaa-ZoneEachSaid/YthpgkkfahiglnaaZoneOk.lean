/- Layer 28: what every reachable state keeps, through every call. No condition. -/
import Derived.Test.YthpgkkfahiglnaaZoneR5
import Derived.Test.YthpgkkfahiglnaaZoneMan
set_option linter.unusedSimpArgs false
set_option linter.unusedVariables false
namespace Go.Proofs.Ythpgkkfahiglnaa
open Go Go.RowKit
namespace Zo
def Nx (z z' : Zs) : Prop := OkZ z' ∧ z'.c = z.c ∧ z'.w ≤ z.w + 1
theorem Nx.refl {z : Zs} (h : OkZ z) : Nx z z := ⟨h, rfl, Nat.le_succ _⟩
theorem Nx.put {z : Zs} (h : OkZ z) {i n : Nat} (hi : i < z.l.length) : Nx z (putE z i n).1 := by
 have hm := h.2.2.2.2.2.2.2.2.2 _ (getD_mem hi)
 unfold putE
 split
 ·exact Nx.refl h
 ·rename_i hc
  split
  ·rename_i hop
   refine ⟨h.set i (z.w + 1) (Nat.le_succ _) (x := ⟨if (z.l.getD i dz).p + n = z.c.cap then 14 else (z.l.getD i dz).st, (z.l.getD i dz).p + n, z.w + 1⟩) ?_, rfl, Nat.le_refl _⟩
   dsimp only
   refine ⟨by split <;> omega, by split <;> omega, by omega, Nat.le_refl _⟩
  ·have ho := h.opens i
   split
   ·refine ⟨?_, ho.2.1, by show (opensE z i).1.w + 1 ≤ z.w + 1; rw [ho.2.2.1]; exact Nat.le_refl _⟩
    refine ho.1.set i ((opensE z i).1.w + 1) (Nat.le_succ _) (x := ⟨if (z.l.getD i dz).p + n = (opensE z i).1.c.cap then 14 else 2, (z.l.getD i dz).p + n, (opensE z i).1.w + 1⟩) ?_
    dsimp only
    refine ⟨by split <;> omega, by split <;> omega, by rw [ho.2.1]; omega, Nat.le_refl _⟩
   ·exact Nx.refl h
theorem Nx.write {z : Zs} (h : OkZ z) (lba n : Int) : Nx z (writeE z lba n).1 := by
 unfold writeE
 split
 ·exact Nx.refl h
 ·rename_i hn
  split
  ·exact Nx.refl h
  ·rename_i hin
   split
   ·exact Nx.refl h
   ·split
    ·exact Nx.refl h
    ·split
     ·exact Nx.refl h
     ·have hin2 : insd z lba n = true := by simpa using hin
      obtain ⟨lb, rfl⟩ : ∃ m : Nat, lba = (m : Int) := ⟨lba.toNat, by have := insd_pos hin2; omega⟩
      obtain ⟨nn, rfl⟩ : ∃ m : Nat, n = (m : Int) := ⟨n.toNat, by omega⟩
      exact Nx.put h (insd_i h hin2 (by omega)).1
theorem Nx.append {z : Zs} (h : OkZ z) (lba n : Int) : Nx z (appendE z lba n).1 := by
 unfold appendE
 split
 ·exact Nx.refl h
 ·split
  ·exact Nx.refl h
  ·rename_i hin
   split
   ·exact Nx.refl h
   ·split
    ·exact Nx.refl h
    ·have hin2 : insd z lba 1 = true := by simpa using hin
     obtain ⟨lb, rfl⟩ : ∃ m : Nat, lba = (m : Int) := ⟨lba.toNat, by have := insd_pos hin2; omega⟩
     split
     ·exact Nx.put h (insd_i h (m := 1) hin2 (Nat.le_refl _)).1
     ·exact Nx.refl h
theorem Nx.act {z : Zs} (h : OkZ z) {i : Nat} (hi : i < z.l.length) (a : Nat) : Nx z (actE z i a).1 := by
 have := h.act hi a
 exact ⟨this.1, this.2.1, by rw [this.2.2.1]; exact Nat.le_succ _⟩
theorem Nx.manage {z : Zs} (h : OkZ z) (i a : Int) : Nx z (manageE z i a).1 := by
 unfold manageE
 split
 ·exact Nx.refl h
 ·exact Nx.act h (by omega) _
theorem OkZ.run (a : Nat) : ∀ (is : List Nat) {z : Zs} (_ : OkZ z) (_ : ∀ i ∈ is, i < z.l.length), OkZ (runE a is z).1 ∧ (runE a is z).1.c = z.c ∧ (runE a is z).1.w = z.w ∧ (runE a is z).1.l.length = z.l.length
 | [], z, h, _ => ⟨h, rfl, rfl, rfl⟩
 | i :: is, z, h, hi => by
  have h1 := h.act (hi i List.mem_cons_self) a
  unfold runE
  split
  ·have h2 := OkZ.run a is h1.1 (fun j hj => by rw [h1.2.2.2]; exact hi j (List.mem_cons_of_mem _ hj))
   exact ⟨h2.1, h2.2.1.trans h1.2.1, h2.2.2.1.trans h1.2.2.1, h2.2.2.2.trans h1.2.2.2⟩
  ·exact ⟨h, rfl, rfl, rfl⟩
theorem Nx.manageAll {z : Zs} (h : OkZ z) (a : Int) : Nx z (manageAllE z a).1 := by
 unfold manageAllE
 split
 ·exact Nx.refl h
 ·split
  ·have h2 := OkZ.run a.toNat ((List.range z.l.length).filter fun i => concE a.toNat (z.l.getD i dz).st) h (fun i hi => List.mem_range.1 (List.mem_filter.1 hi).1)
   exact ⟨h2.1, h2.2.1, by rw [h2.2.2.1]; exact Nat.le_succ _⟩
  ·exact Nx.refl h
theorem Nx.damage {z : Zs} (h : OkZ z) (i : Int) (off : Bool) : Nx z (damageE z i off).1 := by
 unfold damageE
 split
 ·exact Nx.refl h
 ·rename_i hi
  have hm := h.2.2.2.2.2.2.2.2.2 _ (getD_mem (show i.toNat < z.l.length by omega))
  refine ⟨h.set i.toNat z.w (Nat.le_refl _) (x := { z.l.getD i.toNat dz with st := if off = true ∨ (z.l.getD i.toNat dz).st = 13 ∨ (z.l.getD i.toNat dz).st = 15 then 15 else 13 }) ?_, rfl, Nat.le_succ _⟩
  dsimp only
  exact ⟨by split <;> omega, by split <;> omega, hm.2.2.1, hm.2.2.2⟩
theorem Nx.power {z : Zs} (h : OkZ z) : Nx z (powerE z) := by
 rw [← pwJ_end]
 exact ⟨h.pw _ (Nat.le_refl _), rfl, Nat.le_succ _⟩
theorem OkZ.new {c : Cf} (h : okC c.n c.sz c.cap c.mo c.ma = true) : OkZ (newZ c) := by
 simp only [okC, decide_eq_true_eq] at h
 refine ⟨by unfold newZ; dsimp only; rw [List.length_replicate], by show 1 ≤ c.n; omega, by show c.n ≤ 4096; omega, by show 1 ≤ c.sz; omega, by show c.sz ≤ 65536; omega, by show 1 ≤ c.cap; omega, by show c.cap ≤ c.sz; omega, by show c.mo ≤ c.n; omega, by show c.ma ≤ c.n; omega, ?_⟩
 intro x hx
 obtain ⟨_, rfl⟩ := List.mem_replicate.1 hx
 exact ⟨by decide, by decide, Nat.zero_le _, Nat.zero_le _⟩
end Zo
end Go.Proofs.Ythpgkkfahiglnaa


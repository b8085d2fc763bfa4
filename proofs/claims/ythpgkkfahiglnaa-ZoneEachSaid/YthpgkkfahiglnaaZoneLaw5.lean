/- Layer 28's laws: works. No condition but Go's own limits. Printed by wip/gen_zonelaw5.py. -/
import Derived.Test.YthpgkkfahiglnaaZoneLaw4
set_option maxRecDepth 100000
set_option maxHeartbeats 4000000
set_option linter.unusedSimpArgs false
set_option linter.unusedVariables false
namespace Go.Proofs.Ythpgkkfahiglnaa
open Go Go.RowKit
namespace Zo
open Se (St At Reads Cell)
open Li (Rd Blk Fr)
variable {w0 w : World} {X : List Nat} {L : List At}
attribute [local irreducible] Calls
def Okw (z : Zs) : Prop := OkZ z ∧ z.w < 1099511627776
def WrC (x y : Int) (k : Nat) (z z' : Zs) : Prop := ∀ (w0 : World) (X : List Nat) (L : List At) (g : Nat) (a : Addr) (r : Option Nat) (c : Nat) (w : World), St w0 X (pZ g z (some a) c :: pL r (some a) c z :: L) w → Calls Try.prog 12 #[.pointer (some ⟨g, 0, none⟩), .int .i64 x, .int .i64 y] w fun e w' => e = .returned (.agg (stv k).toArray) ∧ ∃ a r c, St w0 X (pZ g z' (some a) c :: pL r (some a) c z' :: L) w'
theorem wrC {z z' : Zs} {x y : Int} {k : Nat} (h : Okw z) (he : writeE z x y = (z', k)) : WrC x y k z z' := fun w0 X L g a r c w hs => by
 have := write_st hs h.1 h.2 x y
 rw [he] at this
 exact this
def ApC (x y : Int) (at0 k : Nat) (z z' : Zs) : Prop := ∀ (w0 : World) (X : List Nat) (L : List At) (g : Nat) (a : Addr) (r : Option Nat) (c : Nat) (w : World), St w0 X (pZ g z (some a) c :: pL r (some a) c z :: L) w → Calls Try.prog 13 #[.pointer (some ⟨g, 0, none⟩), .int .i64 x, .int .i64 y, iv at0, iv k] w fun e w' => e = .returned (.bool true) ∧ ∃ a r c, St w0 X (pZ g z' (some a) c :: pL r (some a) c z' :: L) w'
theorem apC {z z' : Zs} {x y : Int} {at0 k : Nat} (h : Okw z) (he : appendE z x y = (z', at0, k)) : ApC x y at0 k z z' := fun w0 X L g a r c w hs => by
 have := appends_M (M := []) hs h.1 h.2 x y
 rw [he] at this
 exact this
def MaC (x y : Int) (k : Nat) (z z' : Zs) : Prop := ∀ (w0 : World) (X : List Nat) (L : List At) (g : Nat) (a : Addr) (r : Option Nat) (c : Nat) (w : World), St w0 X (pZ g z (some a) c :: pL r (some a) c z :: L) w → Calls Try.prog 18 #[.pointer (some ⟨g, 0, none⟩), .int .i64 x, .int .i64 y] w fun e w' => e = .returned (.agg (stv k).toArray) ∧ ∃ a r c, St w0 X (pZ g z' (some a) c :: pL r (some a) c z' :: L) w'
theorem maC {z z' : Zs} {x y : Int} {k : Nat} (h : Okw z) (he : manageE z x y = (z', k)) : MaC x y k z z' := fun w0 X L g a r c w hs => by
 have := manage_st hs h.1 x y
 rw [he] at this
 exact this
def ReC (x y : Int) (k : Nat) (z : Zs) : Prop := ∀ (w0 : World) (X : List Nat) (L : List At) (g : Nat) (a : Addr) (r : Option Nat) (c : Nat) (w : World), St w0 X (pZ g z (some a) c :: pL r (some a) c z :: L) w → Calls Try.prog 14 #[.pointer (some ⟨g, 0, none⟩), .int .i64 x, .int .i64 y] w fun e w' => e = .returned (.agg (stv k).toArray) ∧ ∃ a r c, St w0 X (pZ g z (some a) c :: pL r (some a) c z :: L) w'
theorem reC {z : Zs} {x y : Int} {k : Nat} (h : Okw z) (he : readE z x y = k) : ReC x y k z := fun w0 X L g a r c w hs => by
 have := read_st hs h.1 x y
 rw [he] at this
 exact this.mono (by rintro e w ⟨h1, h2⟩; exact ⟨h1, a, r, c, h2⟩)
instance (z : Zs) : Decidable (OkZ z) := by unfold OkZ; infer_instance
instance (z : Zs) : Decidable (Okw z) := by unfold Okw; infer_instance
def x0 : Zs := newZ ⟨4, 8, 6, 2, 3⟩
def x1 : Zs := (writeE x0 0 2).1
def x2 : Zs := (appendE x1 0 4).1
def x3 : Zs := (writeE x2 8 1).1
def x4 : Zs := (writeE x3 16 1).1
def x5 : Zs := (writeE x4 24 1).1
def x6 : Zs := (manageE x5 0 4).1
def x7 : Zs := (manageE x6 3 3).1
def x8 : Zs := (manageE x7 2 3).1
def x9 : Zs := (damageE x8 1 true).1
theorem works_aux {z0 z1 z2 z3 z4 z5 z6 z7 z8 z9 : Zs} (hs : St w0 X L w) (h0 : newZ ⟨4, 8, 6, 2, 3⟩ = z0) (ho5 : OkZ z5) (hc5 : cntO z5.l = 2) (ha5 : cntA z5.l = 3) (hz5 : zcV z5 1 = [iv 4, iv 8, iv 6, iv 9]) (hl5 : 1 < z5.l.length) (ho8 : OkZ z8)
  (H0 : WrC 0 2 0 z0 z1) (H1 : WrC 0 1 188 z1 z1) (H2 : WrC 2 5 184 z1 z1) (H3 : ApC 0 4 2 0 z1 z2) (H4 : ApC 0 1 0 185 z2 z2) (H5 : WrC 8 1 0 z2 z3) (H6 : WrC 16 1 0 z3 z4) (H7 : WrC 24 1 0 z4 z5) (H8 : MaC 0 4 0 z5 z6) (H9 : WrC 0 1 189 z6 z6) (H10 : MaC 3 3 0 z6 z7) (H11 : MaC 2 3 0 z7 z8) (H12 : WrC 9 1 190 z8 z8) (H13 : WrC 30 1 188 z8 z8) (H14 : ReC 0 32 0 z8) (H15 : ReC 31 2 128 z8) (H16 : damageE z8 1 true = (z9, 0)) (H17 : ReC 0 9 187 z9) :
  Calls Try.prog 8 #[] w fun e w' => e = .returned (.bool true) ∧ St w0 X L w' := by
 have BP1 : Hid (∀ w : World, (Instr.build 24 #[(0, iv 4), (1, iv 8), (2, iv 9)]).run Try.prog w = .ok (.agg #[.int .i64 4, .int .i64 8, .int .i64 9, .int .i64 0, .int .i64 0]) w) := Lib.hid (fun w => by kernel_rfl)
 have BP2 : Hid (∀ w : World, (Instr.build 24 #[(0, iv 4), (1, iv 8), (2, iv 6), (3, iv 2), (4, iv 3)]).run Try.prog w = .ok (.agg #[iv 4, iv 8, iv 6, iv 2, iv 3]) w) := Lib.hid (fun w => by kernel_rfl)
 have BP3 : Hid (∀ w : World, (Instr.build 37 #[(0, iv 4), (1, iv 8), (2, iv 6), (3, iv 9)]).run Try.prog w = .ok (.agg #[iv 4, iv 8, iv 6, iv 9]) w) := Lib.hid (fun w => by kernel_rfl)
 have CN1 : Hid (∀ (L : List At) (w : World), St w0 X L w → Calls Try.prog 9 #[.agg #[.int .i64 4, .int .i64 8, .int .i64 9, .int .i64 0, .int .i64 0]] w fun e w' => e = .returned (.tuple #[.pointer none, iv 2]) ∧ St w0 X L w') := Lib.hid (fun L w hs => new_no hs (by decide))
 have CN2 : Hid (∀ (L : List At) (w : World), St w0 X L w → Calls Try.prog 9 #[.agg #[iv 4, iv 8, iv 6, iv 2, iv 3]] w fun e w' => ∃ g a r c, e = .returned (.tuple #[.pointer (some ⟨g, 0, none⟩), iv 0]) ∧ St w0 X (pZ g z0 (some a) c :: pL r (some a) c z0 :: L) w') := Lib.hid (fun L w hs => by
  refine (new_yes hs (c := ⟨4, 8, 6, 2, 3⟩) (by decide)).mono ?_
  rintro e w ⟨g, a, r, h1, h2⟩
  rw [h0] at h2
  exact ⟨g, a, r, _, h1, h2⟩)
 have CZ : Hid (∀ (g : Nat) (a : Addr) (r : Option Nat) (c : Nat) (L : List At) (w : World), St w0 X (pZ g z5 (some a) c :: pL r (some a) c z5 :: L) w → Calls Try.prog 15 #[.pointer (some ⟨g, 0, none⟩), .int .i64 1] w fun e w' => e = .returned (.tuple #[.agg #[iv 4, iv 8, iv 6, iv 9], .int .i64 0]) ∧ St w0 X (pZ g z5 (some a) c :: pL r (some a) c z5 :: L) w') := Lib.hid (fun g a r c L w hs => by
  have h := zone_st hs ho5 (i := 1) hl5
  rw [hz5] at h
  exact h)
 have CO : Hid (∀ (M : List At) (g : Nat) (a : Addr) (r : Option Nat) (c : Nat) (L : List At) (w : World), St w0 X (M ++ pZ g z5 (some a) c :: pL r (some a) c z5 :: L) w → Calls Try.prog 30 #[.pointer (some ⟨g, 0, none⟩)] w fun e w' => e = .returned (iv 2) ∧ St w0 X (M ++ pZ g z5 (some a) c :: pL r (some a) c z5 :: L) w') := Lib.hid (fun M g a r c L w hs => by
  have h := openN_st (hs.perm permB) ho5
  rw [hc5] at h
  exact h.mono (by rintro e w ⟨h1, h2⟩; exact ⟨h1, h2.perm perm2⟩))
 have CA : Hid (∀ (M : List At) (g : Nat) (a : Addr) (r : Option Nat) (c : Nat) (L : List At) (w : World), St w0 X (M ++ pZ g z5 (some a) c :: pL r (some a) c z5 :: L) w → Calls Try.prog 31 #[.pointer (some ⟨g, 0, none⟩)] w fun e w' => e = .returned (iv 3) ∧ St w0 X (M ++ pZ g z5 (some a) c :: pL r (some a) c z5 :: L) w') := Lib.hid (fun M g a r c L w hs => by
  have h := activeN_st (hs.perm permB) ho5
  rw [ha5] at h
  exact h.mono (by rintro e w ⟨h1, h2⟩; exact ⟨h1, h2.perm perm2⟩))
 have CD : Hid (∀ (g : Nat) (a : Addr) (r : Option Nat) (c : Nat) (L : List At) (w : World), St w0 X (pZ g z8 (some a) c :: pL r (some a) c z8 :: L) w → Calls Try.prog 17 #[.pointer (some ⟨g, 0, none⟩), .int .i64 1, .bool true] w fun e w' => e = .returned (iv 0) ∧ ∃ a r c, St w0 X (pZ g z9 (some a) c :: pL r (some a) c z9 :: L) w') := Lib.hid (fun g a r c L w hs => by
  have h := damage_M (M := []) hs ho8 1 true
  rw [H16] at h
  exact h)
 have hx0 := neZ 4 8 6 9
 replace H0 := Lib.hid H0
 replace H1 := Lib.hid H1
 replace H2 := Lib.hid H2
 replace H3 := Lib.hid H3
 replace H4 := Lib.hid H4
 replace H5 := Lib.hid H5
 replace H6 := Lib.hid H6
 replace H7 := Lib.hid H7
 replace H8 := Lib.hid H8
 replace H9 := Lib.hid H9
 replace H10 := Lib.hid H10
 replace H11 := Lib.hid H11
 replace H12 := Lib.hid H12
 replace H13 := Lib.hid H13
 replace H14 := Lib.hid H14
 replace H15 := Lib.hid H15
 replace H16 := Lib.hid H16
 replace H17 := Lib.hid H17
 clear h0 ho5 hc5 ha5 hz5 hl5 ho8
 go_enter Try.func8, Try.ntmps8
 go_upto_region 3 with (first | ((with_reducible refine Se.isL (o := ⟨some 8, _, _, _, _, _⟩) ?_); (refine Se.toL rfl (Se.bd (o := ⟨some 8, _, _, _, _, _⟩) rfl rfl (BP1.out _) ?_))) | ((with_reducible refine Se.isL (o := ⟨some 13, _, _, _, _, _⟩) ?_); (refine Se.toL rfl (Se.bd (o := ⟨some 13, _, _, _, _, _⟩) rfl rfl (BP2.out _) ?_))) | (go_at_call 9; refine Calls.mono (CN1.out _ _ hs) ?_; clear hs; rintro e w ⟨rfl, hs⟩) | (go_at_call 9; refine Calls.mono (CN2.out _ _ hs) ?_; clear hs; rintro e w ⟨g, a, r, c, rfl, hs⟩))
 go_upto_region 5 with (first | (go_at_call 10; refine Calls.mono (num_v hs _) ?_; clear hs; rintro e w ⟨rfl, hs⟩) | (go_at_call 12; refine Calls.mono (H0.out _ _ _ _ _ _ _ _ hs) ?_; clear hs; rintro e w ⟨rfl, a, r, c, hs⟩) | (go_at_call 11; refine Calls.mono (code_st hs 0 (by decide)) ?_; clear hs; rintro e w ⟨rfl, hs⟩) | (go_at_call 12; refine Calls.mono (H1.out _ _ _ _ _ _ _ _ hs) ?_; clear hs; rintro e w ⟨rfl, a, r, c, hs⟩) | (go_at_call 11; refine Calls.mono (code_st hs 188 (by decide)) ?_; clear hs; rintro e w ⟨rfl, hs⟩) | (go_at_call 12; refine Calls.mono (H2.out _ _ _ _ _ _ _ _ hs) ?_; clear hs; rintro e w ⟨rfl, a, r, c, hs⟩) | (go_at_call 11; refine Calls.mono (code_st hs 184 (by decide)) ?_; clear hs; rintro e w ⟨rfl, hs⟩) | (go_at_call 13; refine Calls.mono (H3.out _ _ _ _ _ _ _ _ hs) ?_; clear hs; rintro e w ⟨rfl, a, r, c, hs⟩) | (go_at_call 13; refine Calls.mono (H4.out _ _ _ _ _ _ _ _ hs) ?_; clear hs; rintro e w ⟨rfl, a, r, c, hs⟩))
 go_upto_region 7 with (first | (go_at_call 12; refine Calls.mono (H5.out _ _ _ _ _ _ _ _ hs) ?_; clear hs; rintro e w ⟨rfl, a, r, c, hs⟩) | (go_at_call 11; refine Calls.mono (code_st hs 0 (by decide)) ?_; clear hs; rintro e w ⟨rfl, hs⟩) | (go_at_call 12; refine Calls.mono (H6.out _ _ _ _ _ _ _ _ hs) ?_; clear hs; rintro e w ⟨rfl, a, r, c, hs⟩) | (go_at_call 12; refine Calls.mono (H7.out _ _ _ _ _ _ _ _ hs) ?_; clear hs; rintro e w ⟨rfl, a, r, c, hs⟩))
 go_upto_region 8 with (first | ((with_reducible refine Se.isL (o := ⟨some 5, _, _, _, _, _⟩) ?_); (refine Se.toL rfl (Se.al (o := ⟨some 5, _, _, _, _, _⟩) hs rfl (zZo) ?_); clear hs; rintro w g5 - hs)) | ((with_reducible refine Se.isL (o := ⟨none, _, _, _, _, _⟩) ?_); (refine Se.toL rfl (Se.sow 0 hs rfl rfl rfl rfl ((by simp [Value.oneCell'])) ((by kernel_rfl)) (rfl) ?_); clear hs; intro w hs; try simp only [List.cons_append, List.nil_append, List.set_cons_zero] at hs)) | (go_at_call 15; refine Calls.mono (CZ.out _ _ _ _ _ _ hs) ?_; clear hs; rintro e w ⟨rfl, hs⟩))
 go_upto_region 10 with (first | ((with_reducible refine Se.isL (o := ⟨some 78, _, _, _, _, _⟩) ?_); (refine Se.toL rfl (Se.ldw (o := ⟨some 78, _, _, _, _, _⟩) hs rfl rfl ((Reads.blk 0 rfl)) ((by kernel_rfl)) (by kernel_rfl) ?_))) | ((with_reducible refine Se.isL (o := ⟨some 79, _, _, _, _, _⟩) ?_); (refine Se.toL rfl (Se.bd (o := ⟨some 79, _, _, _, _, _⟩) rfl rfl (BP3.out _) ?_))) | (go_at_call 10; refine Calls.mono (num_v hs _) ?_; clear hs; rintro e w ⟨rfl, hs⟩) | (go_at_call 30; refine Calls.mono (CO.out [_] _ _ _ _ _ _ hs) ?_; clear hs; rintro e w ⟨rfl, hs⟩) | (go_at_call 31; refine Calls.mono (CA.out [_] _ _ _ _ _ _ hs) ?_; clear hs; rintro e w ⟨rfl, hs⟩))
 replace hs := hs.drop
 go_upto_region 12 with (first | (go_at_call 18; refine Calls.mono (H8.out _ _ _ _ _ _ _ _ hs) ?_; clear hs; rintro e w ⟨rfl, a, r, c, hs⟩) | (go_at_call 11; refine Calls.mono (code_st hs 0 (by decide)) ?_; clear hs; rintro e w ⟨rfl, hs⟩) | (go_at_call 12; refine Calls.mono (H9.out _ _ _ _ _ _ _ _ hs) ?_; clear hs; rintro e w ⟨rfl, a, r, c, hs⟩) | (go_at_call 11; refine Calls.mono (code_st hs 189 (by decide)) ?_; clear hs; rintro e w ⟨rfl, hs⟩) | (go_at_call 18; refine Calls.mono (H10.out _ _ _ _ _ _ _ _ hs) ?_; clear hs; rintro e w ⟨rfl, a, r, c, hs⟩) | (go_at_call 18; refine Calls.mono (H11.out _ _ _ _ _ _ _ _ hs) ?_; clear hs; rintro e w ⟨rfl, a, r, c, hs⟩) | (go_at_call 12; refine Calls.mono (H12.out _ _ _ _ _ _ _ _ hs) ?_; clear hs; rintro e w ⟨rfl, a, r, c, hs⟩) | (go_at_call 11; refine Calls.mono (code_st hs 190 (by decide)) ?_; clear hs; rintro e w ⟨rfl, hs⟩))
 go_wp2_with (first | (go_at_call 12; refine Calls.mono (H13.out _ _ _ _ _ _ _ _ hs) ?_; clear hs; rintro e w ⟨rfl, a, r, c, hs⟩) | (go_at_call 11; refine Calls.mono (code_st hs 188 (by decide)) ?_; clear hs; rintro e w ⟨rfl, hs⟩) | (go_at_call 14; refine Calls.mono (H14.out _ _ _ _ _ _ _ _ hs) ?_; clear hs; rintro e w ⟨rfl, a, r, c, hs⟩) | (go_at_call 11; refine Calls.mono (code_st hs 0 (by decide)) ?_; clear hs; rintro e w ⟨rfl, hs⟩) | (go_at_call 14; refine Calls.mono (H15.out _ _ _ _ _ _ _ _ hs) ?_; clear hs; rintro e w ⟨rfl, a, r, c, hs⟩) | (go_at_call 11; refine Calls.mono (code_st hs 128 (by decide)) ?_; clear hs; rintro e w ⟨rfl, hs⟩) | (go_at_call 17; refine Calls.mono (CD.out _ _ _ _ _ _ hs) ?_; clear hs; rintro e w ⟨rfl, a, r, c, hs⟩) | (go_at_call 10; refine Calls.mono (num_v hs _) ?_; clear hs; rintro e w ⟨rfl, hs⟩) | (go_at_call 14; refine Calls.mono (H17.out _ _ _ _ _ _ _ _ hs) ?_; clear hs; rintro e w ⟨rfl, a, r, c, hs⟩) | (go_at_call 11; refine Calls.mono (code_st hs 187 (by decide)) ?_; clear hs; rintro e w ⟨rfl, hs⟩))
 go_ret
 exact ⟨rfl, hs.drop.drop⟩
theorem works_st (hs : St w0 X L w) : Calls Try.prog 8 #[] w fun e w' => e = .returned (.bool true) ∧ St w0 X L w' :=
 works_aux (z0 := x0) (z1 := x1) (z2 := x2) (z3 := x3) (z4 := x4) (z5 := x5) (z6 := x6) (z7 := x7) (z8 := x8) (z9 := x9) hs rfl (by decide +kernel) (by decide +kernel) (by decide +kernel) (by
  have h : ((x5.l.getD 1 dz).st, 1 * x5.c.sz, x5.c.cap, 1 * x5.c.sz + (x5.l.getD 1 dz).p) = (4, 8, 6, 9) := by decide +kernel
  simp only [Prod.mk.injEq] at h
  unfold zcV
  rw [h.1, h.2.1, h.2.2.1]
  have h2 := h.2.2.2
  rw [h.2.1] at h2
  rw [h2]) (by decide +kernel) (by decide +kernel)
  (wrC (by decide +kernel) (Prod.ext rfl (by decide +kernel)))
  (wrC (by decide +kernel) (Prod.ext (write_z (by decide +kernel)) (by decide +kernel)))
  (wrC (by decide +kernel) (Prod.ext (write_z (by decide +kernel)) (by decide +kernel)))
  (apC (by decide +kernel) (Prod.ext rfl (Prod.ext (by decide +kernel) (by decide +kernel))))
  (apC (by decide +kernel) (Prod.ext (append_z (by decide +kernel)).1 (Prod.ext (by decide +kernel) (by decide +kernel))))
  (wrC (by decide +kernel) (Prod.ext rfl (by decide +kernel)))
  (wrC (by decide +kernel) (Prod.ext rfl (by decide +kernel)))
  (wrC (by decide +kernel) (Prod.ext rfl (by decide +kernel)))
  (maC (by decide +kernel) (Prod.ext rfl (by decide +kernel)))
  (wrC (by decide +kernel) (Prod.ext (write_z (by decide +kernel)) (by decide +kernel)))
  (maC (by decide +kernel) (Prod.ext rfl (by decide +kernel)))
  (maC (by decide +kernel) (Prod.ext rfl (by decide +kernel)))
  (wrC (by decide +kernel) (Prod.ext (write_z (by decide +kernel)) (by decide +kernel)))
  (wrC (by decide +kernel) (Prod.ext (write_z (by decide +kernel)) (by decide +kernel)))
  (reC (by decide +kernel) (by decide +kernel))
  (reC (by decide +kernel) (by decide +kernel))
  ((Prod.ext rfl (by decide +kernel)))
  (reC (by decide +kernel) (by decide +kernel))
end Zo
end Go.Proofs.Ythpgkkfahiglnaa


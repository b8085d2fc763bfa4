/- Layer 28's laws: ZoneBounds. No condition but Go's own limits. Printed by wip/gen_zonelaw6.py. -/
import Derived.Test.YthpgkkfahiglnaaZoneLaw6
set_option linter.unusedSimpArgs false
set_option linter.unusedVariables false
namespace Go.Proofs.Ythpgkkfahiglnaa
open Go Go.RowKit
namespace Zo
open Se (St At Reads Cell)
open Li (Rd Blk Fr)
variable {w0 w : World} {X : List Nat} {L : List At}
attribute [local irreducible] Calls
def bc (q : Nat) : Cf := ⟨4096, 65536, q, 0, 0⟩
def bz (q : Nat) : Zs := newZ (bc q)
def bz1 (q i : Nat) : Zs := putF (bz q) i q 2 dz
theorem bz_at (q i : Nat) : (bz q).l.getD i dz = dz := by
 show (List.replicate 4096 dz).getD i dz = dz
 rw [List.getD_eq_getElem?_getD, List.getElem?_replicate]
 split <;> rfl
theorem b_opens (q i : Nat) : opensE (bz q) i = (bz q, 0) := by
 unfold opensE
 have h1 : ¬ (((bz q).l.getD i dz).st = 1 ∧ 0 < (bz q).c.ma ∧ (bz q).c.ma ≤ cntA (bz q).l) := fun h => absurd h.2.1 (show ¬ (0 < 0) by decide)
 rw [if_neg h1, if_pos (show (bz q).c.mo = 0 ∨ cntO (bz q).l < (bz q).c.mo from .inl rfl)]
theorem b_put (q i : Nat) : putE (bz q) i q = (bz1 q i, 0) := by
 unfold putE
 have h1 : ¬ ((bz q).c.cap < dz.p + q) := by show ¬ (q < 0 + q); omega
 have h2 : ¬ (opn dz.st = true) := by decide
 rw [bz_at, if_neg h1, if_neg h2, b_opens, if_pos rfl]
 rfl
theorem b_insd (z : Zs) (hz : z.c.n = 4096 ∧ z.c.sz = 65536) (x n : Int) : insd z x n = decide (0 ≤ x ∧ x ≤ 268435456 ∧ n ≤ 268435456 - x) := by
 unfold insd
 rw [hz.1, hz.2]
 rfl
theorem b_div (i : Nat) : i * 65536 % 65536 = 0 ∧ i * 65536 / 65536 = i := ⟨Nat.mul_mod_left _ _, Nat.mul_div_cancel _ (by decide)⟩
theorem b_write {q i : Nat} (hq : 1 ≤ q ∧ q ≤ 65536) (hi : i ≤ 4095) : writeE (bz q) ((i * 65536 : Nat) : Int) (q : Int) = (bz1 q i, 0) := by
 unfold writeE
 rw [if_neg (by omega), b_insd _ ⟨rfl, rfl⟩, if_neg (by simp; omega), Int.toNat_natCast, Int.toNat_natCast]
 rw [show (bz q).c.sz = 65536 from rfl, (b_div i).1, (b_div i).2, if_neg (by omega), bz_at, if_neg (show ¬ (blkd dz.st ≠ 0) by decide), if_neg (show ¬ (0 ≠ dz.p) by decide), b_put]
theorem bz1_l {q i : Nat} : (bz1 q i).l = (bz q).l.set i ⟨14, q, 1⟩ := by
 unfold bz1 putF
 dsimp only
 rw [if_pos (show dz.p + q = (bz q).c.cap from Nat.zero_add q)]
 rw [show dz.p + q = q from Nat.zero_add q]
 rfl
theorem bz_len (q : Nat) : (bz q).l.length = 4096 := List.length_replicate
theorem bz1_at {q i : Nat} (hi : i ≤ 4095) : (bz1 q i).l.getD i dz = ⟨14, q, 1⟩ := by
 rw [bz1_l, getD_set (by rw [bz_len]; omega)]
theorem b_append {q i : Nat} (hi : i ≤ 4095) : appendE (bz1 q i) ((i * 65536 : Nat) : Int) 1 = (bz1 q i, 0, 185) := by
 unfold appendE
 rw [if_neg (by decide), b_insd _ ⟨rfl, rfl⟩, if_neg (by simp; omega), Int.toNat_natCast]
 rw [show (bz1 q i).c.sz = 65536 from rfl, (b_div i).1, (b_div i).2, if_neg (by simp), bz1_at hi, if_pos (show blkd (⟨14, q, 1⟩ : Zn).st ≠ 0 from (by decide : blkd 14 ≠ 0))]
 rfl
theorem b_off {q i f e : Nat} : offN (bz1 q i).l f e = false := by
 unfold offN
 rw [List.any_eq_false]
 intro x hx
 have h1 := List.mem_of_mem_take (List.mem_of_mem_drop hx)
 rw [bz1_l] at h1
 rcases List.mem_or_eq_of_mem_set h1 with h | rfl
 ·have := (List.mem_replicate.1 (show x ∈ List.replicate 4096 dz from h)).2
  subst this
  decide
 ·show ¬ ((14 == 15) = true)
  decide
theorem b_read {q i : Nat} (hi : i ≤ 4095) : readE (bz1 q i) ((i * 65536 : Nat) : Int) (268435456 - ((i * 65536 : Nat) : Int)) = 0 := by
 unfold readE
 rw [if_neg (by omega), b_insd _ ⟨rfl, rfl⟩, if_neg (by simp; omega), b_off]
 rfl
theorem b_read2 {q i : Nat} (hi : i ≤ 4095) : readE (bz1 q i) ((i * 65536 : Nat) : Int) (268435456 - ((i * 65536 : Nat) : Int) + 1) = 128 := by
 unfold readE
 rw [if_neg (by omega), b_insd _ ⟨rfl, rfl⟩, if_pos (by simp; omega)]
theorem b_zone {q i : Nat} (hi : i ≤ 4095) : zcV (bz1 q i) i = [iv 14, iv (i * 65536), iv q, iv (i * 65536 + q)] := by
 unfold zcV
 rw [bz1_at hi]
 rfl
set_option maxRecDepth 100000 in
set_option maxRecDepth 100000 in
set_option maxHeartbeats 4000000 in
theorem bounds_no (hs : St w0 X L w) {n cap : Int} (h : n < 0 ∨ 4095 < n ∨ cap < 1 ∨ 65536 < cap) :
  Calls Try.prog 3 #[.int .i64 n, .int .i64 cap] w fun e w' => e = .returned (.bool true) ∧ St w0 X L w' := by
 have HH := Lib.hid h
 clear h
 by_cases h1 : n < 0
 ·have f1 : decide (n < 0) = true := by simpa using h1
  clear h1
  go_enter Try.func3, Try.ntmps3
  go_wp2_with (first | (go_at_call 8; refine Calls.mono (works_st hs) ?_; clear hs; rintro e w ⟨rfl, hs⟩))
  go_ret
  exact ⟨rfl, hs⟩
 have f1 : decide (n < 0) = false := by simpa using h1
 by_cases h2 : 4095 < n
 ·have f2 : decide (4095 < n) = true := by simpa using h2
  clear h1 h2
  go_enter Try.func3, Try.ntmps3
  go_wp2_with (first | (go_at_call 8; refine Calls.mono (works_st hs) ?_; clear hs; rintro e w ⟨rfl, hs⟩))
  go_ret
  exact ⟨rfl, hs⟩
 have f2 : decide (4095 < n) = false := by simpa using h2
 by_cases h3 : cap < 1
 ·have f3 : decide (cap < 1) = true := by simpa using h3
  clear h1 h2 h3
  go_enter Try.func3, Try.ntmps3
  go_wp2_with (first | (go_at_call 8; refine Calls.mono (works_st hs) ?_; clear hs; rintro e w ⟨rfl, hs⟩))
  go_ret
  exact ⟨rfl, hs⟩
 have f3 : decide (cap < 1) = false := by simpa using h3
 have f4 : decide (65536 < cap) = true := by have := HH.out; simp; omega
 clear h1 h2 h3
 go_enter Try.func3, Try.ntmps3
 go_wp2_with (first | (go_at_call 8; refine Calls.mono (works_st hs) ?_; clear hs; rintro e w ⟨rfl, hs⟩))
 go_ret
 exact ⟨rfl, hs⟩
set_option maxRecDepth 100000 in
set_option maxRecDepth 100000 in
set_option maxHeartbeats 4000000 in
theorem bounds_yes (hs : St w0 X L w) {i q : Nat} (hi : i ≤ 4095) (hq : 1 ≤ q ∧ q ≤ 65536) :
  Calls Try.prog 3 #[.int .i64 (i : Int), .int .i64 (q : Int)] w fun e w' => e = .returned (.bool true) ∧ St w0 X L w' := by
 have hok : okC (bc q).n (bc q).sz (bc q).cap (bc q).mo (bc q).ma = true := by
  simp [okC, bc]
  omega
 obtain ⟨z, hz⟩ : ∃ z, z = bz q := ⟨_, rfl⟩
 obtain ⟨z1, hz1⟩ : ∃ z, z = bz1 q i := ⟨_, rfl⟩
 have HO := Lib.hid (show OkZ z ∧ z.w < 1099511627776 by rw [hz]; exact ⟨OkZ.new hok, (by decide : 0 < 1099511627776)⟩)
 obtain ⟨at0, hat⟩ : ∃ a, a = i * 65536 := ⟨_, rfl⟩
 have HWE := Lib.hid (show writeE z (at0 : Int) (q : Int) = (z1, 0) by rw [hz, hz1, hat]; exact b_write hq hi)
 have HO1 := Lib.hid (show OkZ z1 ∧ z1.w < 1099511627776 by
  have h := Nx.write HO.out.1 (at0 : Int) (q : Int)
  rw [HWE.out] at h
  refine ⟨h.1, ?_⟩
  rw [hz1]
  show 0 + 1 < 1099511627776
  decide)
 have HAE := Lib.hid (show appendE z1 (at0 : Int) 1 = (z1, 0, 185) by rw [hz1, hat]; exact b_append hi)
 have HR1 := Lib.hid (show readE z1 (at0 : Int) (268435456 - (at0 : Int)) = 0 by rw [hz1, hat]; exact b_read hi)
 have HR2 := Lib.hid (show readE z1 (at0 : Int) (268435456 - (at0 : Int) + 1) = 128 by rw [hz1, hat]; exact b_read2 hi)
 obtain ⟨aq, haq⟩ : ∃ a, a = at0 + q := ⟨_, rfl⟩
 have HZC := Lib.hid (show zcV z1 i = [iv 14, iv at0, iv q, iv aq] by rw [hz1, haq, hat]; exact b_zone hi)
 have HIL := Lib.hid (show i < z1.l.length by rw [hz1, bz1_l, List.length_set, bz_len]; omega)
 obtain ⟨C, hC⟩ : ∃ C, C = Zo.cl (bc q) := ⟨_, rfl⟩
 have CLn := Lib.hid (show C.length = 5 by rw [hC]; rfl)
 have COn := Lib.hid (show ∀ v ∈ C, v.oneCell' = true by rw [hC]; exact cl_one _)
 have BC : Hid (∀ w : World, (Instr.build 24 #[(0, iv 4096), (1, iv 65536), (2, iv q)]).run Try.prog w = .ok (.agg C.toArray) w) := Lib.hid (fun w => by rw [hC]; kernel_rfl)
 have C0 := Lib.hid (show C[0]? = some (iv 4096) by rw [hC]; rfl)
 have C1 := Lib.hid (show C[1]? = some (iv 65536) by rw [hC]; rfl)
 obtain ⟨D, hD⟩ : ∃ D, D = C.set 0 (.int .i64 4097) := ⟨_, rfl⟩
 obtain ⟨E, hE⟩ : ∃ D, D = C.set 1 (.int .i64 65537) := ⟨_, rfl⟩
 have DLn := Lib.hid (show D.length = 5 by rw [hD, hC]; rfl)
 have ELn := Lib.hid (show E.length = 5 by rw [hE, hC]; rfl)
 have HD := Lib.hid hD.symm
 have HE := Lib.hid hE.symm
 have CN : Hid (∀ (L : List At) (w : World), St w0 X L w → Calls Try.prog 9 #[.agg C.toArray] w fun e w' => ∃ g a r cc, e = .returned (.tuple #[.pointer (some ⟨g, 0, none⟩), iv 0]) ∧ St w0 X (pZ g z (some a) cc :: pL r (some a) cc z :: L) w') := Lib.hid (fun L w hs => by
  rw [show C.toArray = #[iv (bc q).n, iv (bc q).sz, iv (bc q).cap, iv (bc q).mo, iv (bc q).ma] by rw [hC]; rfl, hz]
  exact (new_yes hs hok).mono (by rintro e w ⟨g, a, r, h1, h2⟩; exact ⟨g, a, r, _, h1, h2⟩))
 have CN2 : Hid (∀ (L : List At) (w : World), St w0 X L w → Calls Try.prog 9 #[.agg D.toArray] w fun e w' => e = .returned (.tuple #[.pointer none, iv 2]) ∧ St w0 X L w') := Lib.hid (fun L w hs => by
  rw [show D.toArray = #[.int .i64 4097, .int .i64 65536, .int .i64 (q : Int), .int .i64 0, .int .i64 0] by rw [hD, hC]; rfl]
  exact new_no hs (by simp only [okC, decide_eq_false_iff_not]; omega))
 have CN3 : Hid (∀ (L : List At) (w : World), St w0 X L w → Calls Try.prog 9 #[.agg E.toArray] w fun e w' => e = .returned (.tuple #[.pointer none, iv 2]) ∧ St w0 X L w') := Lib.hid (fun L w hs => by
  rw [show E.toArray = #[.int .i64 4096, .int .i64 65537, .int .i64 (q : Int), .int .i64 0, .int .i64 0] by rw [hE, hC]; rfl]
  exact new_no hs (by simp only [okC, decide_eq_false_iff_not]; omega))
 have f1 : decide ((i : Int) < 0) = false := by simp
 have f2 : decide (4095 < (i : Int)) = false := by simp; omega
 have f3 : decide ((q : Int) < 1) = false := by simp; omega
 have f4 : decide (65536 < (q : Int)) = false := by simp; omega
 have w1 : IntKind.i64.wrap ((i : Int) * 65536) = (at0 : Int) := by rw [show (i : Int) * 65536 = (at0 : Int) by omega]; exact IntWalk.i64_in _ (by omega)
 have hat2 : at0 ≤ 268369920 := by rw [hat]; omega
 have hq2 := hq.2
 have w2 : IntKind.i64.wrap ((at0 : Int) + (q : Int)) = (aq : Int) := by rw [haq, Int.natCast_add]; exact IntWalk.i64_in _ (by omega)
 have EQZ : ∀ w, (binOp .eql 37 (.agg #[iv 14, iv at0, iv q, iv aq]) (.agg #[iv 14, iv at0, iv q, iv aq])).run Try.prog w = .ok (.bool true) w := fun w => eqZ _ _ _ _ w
 have BO : Hid (∀ w : World, (Instr.build 37 #[(0, iv 14), (1, iv at0), (2, iv q), (3, iv aq)]).run Try.prog w = .ok (.agg #[iv 14, iv at0, iv q, iv aq]) w) := Lib.hid (fun w => by kernel_rfl)
 clear hok hz hz1 hat haq hC hD hE hi hq
 go_enter Try.func3, Try.ntmps3
 go_upto_region 4 with (first | ((with_reducible refine Se.isL (o := ⟨some 32, _, _, _, _, _⟩) ?_); (refine Se.toL rfl (Se.bd (o := ⟨some 32, _, _, _, _, _⟩) rfl rfl (BC.out _) ?_))) | ((with_reducible refine Se.isL (o := ⟨some 5, _, _, _, _, _⟩) ?_); (refine Se.toL rfl (Se.al (o := ⟨some 5, _, _, _, _, _⟩) hs rfl (zCf) ?_); clear hs; rintro w g5 - hs)) | ((with_reducible refine Se.isL (o := ⟨none, _, _, _, _, _⟩) ?_); (refine Se.toL rfl (Se.sow 0 hs rfl rfl rfl rfl (COn.out) ((by rw [CLn.out]; kernel_rfl)) ((by rw [CLn.out]; rfl)) ?_); clear hs; intro w hs; try simp only [List.cons_append, List.nil_append, List.set_cons_zero] at hs)))
 go_upto_region 5 with (first | ((with_reducible refine Se.isL (o := ⟨some 34, _, _, _, _, _⟩) ?_); (refine Se.toL rfl (Se.ldw (o := ⟨some 34, _, _, _, _, _⟩) hs rfl rfl ((Reads.blk 0 rfl)) ((by rw [CLn.out]; kernel_rfl)) (by kernel_rfl) ?_))) | (go_at_call 9; refine Calls.mono (CN.out _ _ hs) ?_; clear hs; rintro e w ⟨g, a, r, cc, rfl, hs⟩))
 go_upto_region 7 with (first | ((with_reducible refine Se.isL (o := ⟨some 38, _, _, _, _, _⟩) ?_); (refine Se.toL rfl (Se.ldw (o := ⟨some 38, _, _, _, _, _⟩) hs rfl rfl ((Reads.blk 2 rfl)) ((by rw [CLn.out]; kernel_rfl)) (by kernel_rfl) ?_))) | ((with_reducible refine Se.isL (o := ⟨some 8, _, _, _, _, _⟩) ?_); (refine Se.toL rfl (Se.al (o := ⟨some 8, _, _, _, _, _⟩) hs rfl (zCf) ?_); clear hs; rintro w g8 - hs)) | ((with_reducible refine Se.isL (o := ⟨none, _, _, _, _, _⟩) ?_); (refine Se.toL rfl (Se.sow 0 hs rfl rfl rfl rfl (COn.out) ((by rw [CLn.out]; kernel_rfl)) ((by rw [CLn.out]; rfl)) ?_); clear hs; intro w hs; try simp only [List.cons_append, List.nil_append, List.set_cons_zero] at hs)) | ((with_reducible refine Se.isL (o := ⟨some 40, _, _, _, _, _⟩) ?_); (refine Se.toL rfl (Se.ld (o := ⟨some 40, _, _, _, _, _⟩) hs rfl rfl (Cell.blk 0 rfl C0.out) (by kernel_rfl) ?_))) | ((with_reducible refine Se.isL (o := ⟨none, _, _, _, _, _⟩) ?_); ((first | refine Se.toL rfl (Se.soq 0 (v := .int _ _) hs rfl rfl rfl rfl rfl (by kernel_rfl) ((by rw [CLn.out]; decide)) (HD.out) ?_) | refine Se.toL rfl (Se.soq 0 (v := .bool _) hs rfl rfl rfl rfl rfl (by kernel_rfl) ((by rw [CLn.out]; decide)) (HD.out) ?_) | refine Se.toL rfl (Se.soq 0 (v := .slice _ _ _) hs rfl rfl rfl rfl rfl (by kernel_rfl) ((by rw [CLn.out]; decide)) (HD.out) ?_) | refine Se.toL rfl (Se.soq 0 (v := .pointer _) hs rfl rfl rfl rfl rfl (by kernel_rfl) ((by rw [CLn.out]; decide)) (HD.out) ?_) | refine Se.toL rfl (Se.soq 0 (v := .string _) hs rfl rfl rfl rfl rfl (by kernel_rfl) ((by rw [CLn.out]; decide)) (HD.out) ?_) | refine Se.toL rfl (Se.soq 0 (v := .map _) hs rfl rfl rfl rfl rfl (by kernel_rfl) ((by rw [CLn.out]; decide)) (HD.out) ?_) | refine Se.toL rfl (Se.soq 0 (v := .func _ _ _) hs rfl rfl rfl rfl rfl (by kernel_rfl) ((by rw [CLn.out]; decide)) (HD.out) ?_) | refine Se.toL rfl (Se.soq 0 (v := .nilFunc) hs rfl rfl rfl rfl rfl (by kernel_rfl) ((by rw [CLn.out]; decide)) (HD.out) ?_)); clear hs; intro w hs; try simp only [List.cons_append, List.nil_append, List.set_cons_zero] at hs)))
 go_upto_region 9 with (first | ((with_reducible refine Se.isL (o := ⟨some 44, _, _, _, _, _⟩) ?_); (refine Se.toL rfl (Se.ldw (o := ⟨some 44, _, _, _, _, _⟩) hs rfl rfl ((Reads.blk 0 rfl)) ((by rw [DLn.out]; kernel_rfl)) (by kernel_rfl) ?_))) | ((with_reducible refine Se.isL (o := ⟨some 48, _, _, _, _, _⟩) ?_); (refine Se.toL rfl (Se.ldw (o := ⟨some 48, _, _, _, _, _⟩) hs rfl rfl ((Reads.blk 3 rfl)) ((by rw [CLn.out]; kernel_rfl)) (by kernel_rfl) ?_))) | ((with_reducible refine Se.isL (o := ⟨none, _, _, _, _, _⟩) ?_); (refine Se.toL rfl (Se.sow 0 hs rfl rfl rfl rfl (COn.out) ((by rw [CLn.out]; kernel_rfl)) ((by rw [CLn.out, DLn.out])) ?_); clear hs; intro w hs; try simp only [List.cons_append, List.nil_append, List.set_cons_zero] at hs)) | (go_at_call 9; refine Calls.mono (CN2.out _ _ hs) ?_; clear hs; rintro e w ⟨rfl, hs⟩))
 go_upto_region 12 with (first | ((with_reducible refine Se.isL (o := ⟨some 50, _, _, _, _, _⟩) ?_); (refine Se.toL rfl (Se.ld (o := ⟨some 50, _, _, _, _, _⟩) hs rfl rfl (Cell.blk 0 rfl C1.out) (by kernel_rfl) ?_))) | ((with_reducible refine Se.isL (o := ⟨none, _, _, _, _, _⟩) ?_); ((first | refine Se.toL rfl (Se.soq 0 (v := .int _ _) hs rfl rfl rfl rfl rfl (by kernel_rfl) ((by rw [CLn.out]; decide)) (HE.out) ?_) | refine Se.toL rfl (Se.soq 0 (v := .bool _) hs rfl rfl rfl rfl rfl (by kernel_rfl) ((by rw [CLn.out]; decide)) (HE.out) ?_) | refine Se.toL rfl (Se.soq 0 (v := .slice _ _ _) hs rfl rfl rfl rfl rfl (by kernel_rfl) ((by rw [CLn.out]; decide)) (HE.out) ?_) | refine Se.toL rfl (Se.soq 0 (v := .pointer _) hs rfl rfl rfl rfl rfl (by kernel_rfl) ((by rw [CLn.out]; decide)) (HE.out) ?_) | refine Se.toL rfl (Se.soq 0 (v := .string _) hs rfl rfl rfl rfl rfl (by kernel_rfl) ((by rw [CLn.out]; decide)) (HE.out) ?_) | refine Se.toL rfl (Se.soq 0 (v := .map _) hs rfl rfl rfl rfl rfl (by kernel_rfl) ((by rw [CLn.out]; decide)) (HE.out) ?_) | refine Se.toL rfl (Se.soq 0 (v := .func _ _ _) hs rfl rfl rfl rfl rfl (by kernel_rfl) ((by rw [CLn.out]; decide)) (HE.out) ?_) | refine Se.toL rfl (Se.soq 0 (v := .nilFunc) hs rfl rfl rfl rfl rfl (by kernel_rfl) ((by rw [CLn.out]; decide)) (HE.out) ?_)); clear hs; intro w hs; try simp only [List.cons_append, List.nil_append, List.set_cons_zero] at hs)) | ((with_reducible refine Se.isL (o := ⟨some 54, _, _, _, _, _⟩) ?_); (refine Se.toL rfl (Se.ldw (o := ⟨some 54, _, _, _, _, _⟩) hs rfl rfl ((Reads.blk 0 rfl)) ((by rw [ELn.out]; kernel_rfl)) (by kernel_rfl) ?_))) | (go_at_call 9; refine Calls.mono (CN3.out _ _ hs) ?_; clear hs; rintro e w ⟨rfl, hs⟩))
 replace hs := hs.drop
 clear CN CN2 CN3 f1 f2 f3 f4 w1 BC
 have CW : Hid (∀ (a : Addr) (r : Option Nat) (cc : Nat) (M1 M : List At) (w : World), St w0 X (M1 ++ pZ g z (some a) cc :: pL r (some a) cc z :: M) w → Calls Try.prog 12 #[.pointer (some ⟨g, 0, none⟩), .int .i64 (at0 : Int), .int .i64 (q : Int)] w fun e w' => e = .returned (.agg (stv 0).toArray) ∧ ∃ a r c, St w0 X (M1 ++ pZ g z1 (some a) c :: pL r (some a) c z1 :: M) w') := Lib.hid (fun a r cc M1 M w hs => by have h := write_M hs HO.out.1 HO.out.2 (at0 : Int) (q : Int); rw [HWE.out] at h; exact h)
 have CAP : Hid (∀ (a : Addr) (r : Option Nat) (cc : Nat) (M1 M : List At) (w : World), St w0 X (M1 ++ pZ g z1 (some a) cc :: pL r (some a) cc z1 :: M) w → Calls Try.prog 13 #[.pointer (some ⟨g, 0, none⟩), .int .i64 (at0 : Int), .int .i64 1, iv 0, iv 185] w fun e w' => e = .returned (.bool true) ∧ ∃ a r c, St w0 X (M1 ++ pZ g z1 (some a) c :: pL r (some a) c z1 :: M) w') := Lib.hid (fun a r cc M1 M w hs => by have h := appends_M hs HO1.out.1 HO1.out.2 (at0 : Int) 1; rw [HAE.out] at h; exact h)
 have CR1 : Hid (∀ (a : Addr) (r : Option Nat) (cc : Nat) (M1 M : List At) (w : World), St w0 X (M1 ++ pZ g z1 (some a) cc :: pL r (some a) cc z1 :: M) w → Calls Try.prog 14 #[.pointer (some ⟨g, 0, none⟩), .int .i64 (at0 : Int), .int .i64 (268435456 - (at0 : Int))] w fun e w' => e = .returned (.agg (stv 0).toArray) ∧ ∃ a r c, St w0 X (M1 ++ pZ g z1 (some a) c :: pL r (some a) c z1 :: M) w') := Lib.hid (fun a r cc M1 M w hs => by have h := read_M hs HO1.out.1 (at0 : Int) (268435456 - (at0 : Int)); rw [HR1.out] at h; exact h.mono (by rintro e w ⟨h1, h2⟩; exact ⟨h1, a, r, cc, h2⟩))
 have CR2 : Hid (∀ (a : Addr) (r : Option Nat) (cc : Nat) (M1 M : List At) (w : World), St w0 X (M1 ++ pZ g z1 (some a) cc :: pL r (some a) cc z1 :: M) w → Calls Try.prog 14 #[.pointer (some ⟨g, 0, none⟩), .int .i64 (at0 : Int), .int .i64 (268435456 - (at0 : Int) + 1)] w fun e w' => e = .returned (.agg (stv 128).toArray) ∧ ∃ a r c, St w0 X (M1 ++ pZ g z1 (some a) c :: pL r (some a) c z1 :: M) w') := Lib.hid (fun a r cc M1 M w hs => by have h := read_M hs HO1.out.1 (at0 : Int) (268435456 - (at0 : Int) + 1); rw [HR2.out] at h; exact h.mono (by rintro e w ⟨h1, h2⟩; exact ⟨h1, a, r, cc, h2⟩))
 have CZ : Hid (∀ (a : Addr) (r : Option Nat) (cc : Nat) (M1 M : List At) (w : World), St w0 X (M1 ++ pZ g z1 (some a) cc :: pL r (some a) cc z1 :: M) w → Calls Try.prog 15 #[.pointer (some ⟨g, 0, none⟩), .int .i64 (i : Int)] w fun e w' => e = .returned (.tuple #[.agg #[iv 14, iv at0, iv q, iv aq], .int .i64 0]) ∧ ∃ a r c, St w0 X (M1 ++ pZ g z1 (some a) c :: pL r (some a) c z1 :: M) w') := Lib.hid (fun a r cc M1 M w hs => by have h := zone_st (hs.perm permB) HO1.out.1 HIL.out; rw [HZC.out] at h; exact h.mono (by rintro e w ⟨h1, h2⟩; exact ⟨h1, a, r, cc, h2.perm perm2⟩))
 have w3 : IntKind.i64.wrap (268435456 - (at0 : Int)) = 268435456 - (at0 : Int) := IntWalk.i64_in _ (by omega)
 have w4 : IntKind.i64.wrap (268435456 - (at0 : Int) + 1) = 268435456 - (at0 : Int) + 1 := IntWalk.i64_in _ (by omega)
 go_upto_region 14 with (first | (go_at_call 10; refine Calls.mono (num_v hs 0) ?_; clear hs; rintro e w ⟨rfl, hs⟩) | (go_at_call 10; refine Calls.mono (num_v hs 2) ?_; clear hs; rintro e w ⟨rfl, hs⟩) | (go_at_call 12; refine Calls.mono (CW.out _ _ _ [] _ _ hs) ?_; clear hs; rintro e w ⟨rfl, a, r, cc, hs⟩) | (go_at_call 11; refine Calls.mono (code_st hs 0 (by decide)) ?_; clear hs; rintro e w ⟨rfl, hs⟩) | (go_at_call 13; refine Calls.mono (CAP.out _ _ _ [] _ _ hs) ?_; clear hs; rintro e w ⟨rfl, a, r, cc, hs⟩) | (go_at_call 14; refine Calls.mono (CR1.out _ _ _ [] _ _ hs) ?_; clear hs; rintro e w ⟨rfl, a, r, cc, hs⟩) | (go_at_call 14; refine Calls.mono (CR2.out _ _ _ [] _ _ hs) ?_; clear hs; rintro e w ⟨rfl, a, r, cc, hs⟩) | (go_at_call 11; refine Calls.mono (code_st hs 128 (by decide)) ?_; clear hs; rintro e w ⟨rfl, hs⟩))
 go_upto_region 15 with (first | ((with_reducible refine Se.isL (o := ⟨some 14, _, _, _, _, _⟩) ?_); (refine Se.toL rfl (Se.al (o := ⟨some 14, _, _, _, _, _⟩) hs rfl (zZo) ?_); clear hs; rintro w g14 - hs)) | ((with_reducible refine Se.isL (o := ⟨none, Op.store 37 _ _, _, _, _, _⟩) ?_); (refine Se.toL rfl (Se.sow 0 hs rfl rfl rfl rfl ((by simp [Value.oneCell'])) ((by kernel_rfl)) (rfl) ?_); clear hs; intro w hs; try simp only [List.cons_append, List.nil_append, List.set_cons_zero] at hs)) | (go_at_call 15; refine Calls.mono (CZ.out _ _ _ [] _ _ hs) ?_; clear hs; rintro e w ⟨rfl, a, r, cc, hs⟩))
 go_wp2_with (first | ((with_reducible refine Se.isL (o := ⟨some 116, _, _, _, _, _⟩) ?_); (refine Se.toL rfl (Se.ldw (o := ⟨some 116, _, _, _, _, _⟩) hs rfl rfl ((Reads.blk 0 rfl)) ((by kernel_rfl)) (by kernel_rfl) ?_))) | ((with_reducible refine Se.isL (o := ⟨some 122, _, _, _, _, _⟩) ?_); (refine Se.toL rfl (Se.bd (o := ⟨some 122, _, _, _, _, _⟩) rfl rfl (BO.out _) ?_))) | (go_at_call 10; refine Calls.mono (num_v hs 0) ?_; clear hs; rintro e w ⟨rfl, hs⟩) | (go_at_call 8; refine Calls.mono (works_st hs) ?_; clear hs; rintro e w ⟨rfl, hs⟩))
 go_ret
 exact ⟨rfl, hs.drop.drop.drop.drop⟩
theorem bounds_any {W : World} (n cap : Int) :
  Calls Try.prog 3 #[.int .i64 n, .int .i64 cap] W fun e w' => e = .returned (.bool true) ∧ Below W.heap.size W w' := by
 have hs : St W [] [] W := St.start W (fun a ha => by cases ha) rfl
 by_cases h : n < 0 ∨ 4095 < n ∨ cap < 1 ∨ 65536 < cap
 ·exact (bounds_no hs h).mono fun _ _ ⟨h1, h2⟩ => ⟨h1, h2.below⟩
 ·obtain ⟨i, rfl⟩ : ∃ m : Nat, n = (m : Int) := ⟨n.toNat, by omega⟩
  obtain ⟨q, rfl⟩ : ∃ m : Nat, cap = (m : Int) := ⟨cap.toNat, by omega⟩
  exact (bounds_yes hs (by omega) (by omega)).mono fun _ _ ⟨h1, h2⟩ => ⟨h1, h2.below⟩
end Zo
end Go.Proofs.Ythpgkkfahiglnaa


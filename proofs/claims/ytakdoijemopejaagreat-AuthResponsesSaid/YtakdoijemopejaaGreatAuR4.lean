/- Layer 38's law AuthResponses, the walk. No condition but Go's own limits. -/
import Derived.Test.YtakdoijemopejaaGreatAuR3
import Derived.Test.YtakdoijemopejaaGreatAuKn
set_option linter.unusedSimpArgs false
set_option linter.unusedVariables false
namespace Go.Proofs.YtakdoijemopejaaGreat
open Go Go.RowKit
namespace Au
open Se (St At Reads Cell)
open Li (v8 v8_one Rd Blk Fr)
open Bv (n8 n16 n32 n64)
variable {w0 w : World} {X : List Nat} {L M : List At}
attribute [local irreducible] Calls
set_option maxRecDepth 100000 in
set_option maxHeartbeats 4000000 in
theorem responses_st (hs : St w0 X L w) (p : Pn) (A : Option Addr) (c : Nat) (hr : Reads L A (p.sec.map v8)) (nonce : Bs) (hn : nonce.length = 32) (s : BitVec 32) (q : BitVec 16) (b : Bool) :
  Calls Tryz.prog 5 #[.agg (pcl p A c).toArray, .agg (nonce.map v8).toArray, .int .u32 (n32 s), .int .u16 (n16 q), .bool b] w fun e w' => e = .returned (.bool true) ∧ St w0 X L w' := by
 obtain ⟨PL, hPL⟩ : ∃ PL, PL = pcl p A c := ⟨_, rfl⟩
 obtain ⟨NV, hNV⟩ : ∃ NV, NV = nonce.map v8 := ⟨_, rfl⟩
 obtain ⟨m, hm⟩ : ∃ m, m = p.sec.length := ⟨_, rfl⟩
 obtain ⟨R, hR⟩ : ∃ R, R = (rsp p nonce q s b).map v8 := ⟨_, rfl⟩
 obtain ⟨Z, hZ⟩ : ∃ Z, Z = z32.map v8 := ⟨_, rfl⟩
 obtain ⟨V, hV⟩ : ∃ V, V = valid p.py := ⟨_, rfl⟩
 obtain ⟨sh, hsh⟩ : ∃ sh, sh = short p := ⟨_, rfl⟩
 have P0 := Lib.hid (show PL[0]? = some (.slice A m c) by rw [hPL, hm]; rfl)
 have P1 := Lib.hid (show PL[1]? = some (.string p.hs) by rw [hPL]; rfl)
 have P2 := Lib.hid (show PL[2]? = some (.string p.sb) by rw [hPL]; rfl)
 have PLL := Lib.hid (show PL.length = 3 by rw [hPL]; rfl)
 have NL := Lib.hid (show NV.length = 32 by rw [hNV]; simpa using hn)
 have ZL := Lib.hid (show Z.length = 32 by rw [hZ]; rfl)
 have RL := Lib.hid (show R.length = 32 by rw [hR, List.length_map, rsp_len])
 have RO := Lib.hid (show ∀ v ∈ R, v.oneCell' = true by rw [hR]; exact v8_one _)
 have SO := Lib.hid (show ∀ v ∈ p.sec.map v8, v.oneCell' = true from v8_one _)
 have SL := Lib.hid (show m = (p.sec.map v8).length by rw [hm]; simp)
 have aJ := Lib.hid a32J
 rw [← hZ] at aJ
 have B3 := Lib.hid (show ∀ w : World, (Instr.build 34 #[]).run Tryz.prog w = .ok (.agg Z.toArray) w by rw [hZ]; exact z32_bd)
 have CS : Hid (∀ (L' : List At) (w : World), St w0 X L' w → Calls Tryz.prog 6 #[.agg PL.toArray] w fun e w' => e = .returned (.bool sh) ∧ St w0 X L' w') := Lib.hid (fun L' w hs => by rw [hPL, hsh]; exact short_st hs p A c)
 have HB : Hid (sh = true → m ≤ 80 ∧ p.hs.size ≤ 240 ∧ p.sb.size ≤ 240) := Lib.hid (fun h => by
  rw [hsh] at h
  simp only [short, Bool.and_eq_true, decide_eq_true_eq] at h
  exact ⟨by rw [hm]; exact h.1.1, h.1.2, h.2⟩)
 have CV : Hid (sh = true → ∀ (L' : List At) (w : World), St w0 X L' w → Calls Tryz.prog 9 #[.agg PL.toArray] w fun e w' => e = .returned (.bool V) ∧ St w0 X L' w') := Lib.hid (fun h L' w hs => by rw [hPL, hV]; exact rvalid_st hs p A c (HB.out h).2.1 (HB.out h).2.2)
 have CR : Hid (sh = true → ∀ (L' : List At) (w : World) (B : Option Addr) (d : Nat), Reads L' B (p.sec.map v8) → St w0 X L' w → Calls Tryz.prog 23 #[.slice B m d, .agg NV.toArray, .int .u32 (n32 s), .int .u16 (n16 q), .string p.hs, .string p.sb, .bool b] w fun e w' => e = .returned (.tuple #[.agg R.toArray, .int .i64 (if V then 0 else 2)]) ∧ St w0 X L' w') := Lib.hid (fun h L' w B d hr2 hs => by
  have h80 := (HB.out h).1
  rw [hm, hNV, hR, hV]
  exact response_st hs p B d nonce q s b hr2 (by omega) hn (HB.out h).2.1 (HB.out h).2.2)
 have CF : Hid (sh = true → V = true → ∀ (M : List At) (w : World), St w0 X (M ++ L) w → Calls Tryz.prog 24 #[.agg PL.toArray, .agg NV.toArray, .int .u32 (n32 s), .int .u16 (n16 q), .bool b] w fun e w' => e = .returned (.agg R.toArray) ∧ St w0 X (M ++ L) w') := Lib.hid (fun h h2 M w hs => by
  have h80 := (HB.out h).1
  have e : R = (resp p.py nonce ⟨0#8, 0#8, q, s⟩ (if b then 67#8 else 72#8)).map v8 := by rw [hR]; unfold rsp; rw [← hV, h2]; rfl
  rw [e, hPL, hNV]
  exact rresp_st hs p A c nonce q s b (hr.app M) (by omega) hn (HB.out h).2.1 (HB.out h).2.2)
 have CSm : Hid (∀ (M : List At) (w : World) (B : Option Addr) (d : Nat), Reads (M ++ L) B (p.sec.map v8) → St w0 X (M ++ L) w → Calls Tryz.prog 12 #[.slice B m d, .slice A m c] w fun e w' => e = .returned (.bool true) ∧ St w0 X (M ++ L) w') := Lib.hid (fun M w B d hr2 hs => (same_st hs hr2 (hr.app M) hm hm rfl).mono fun _ _ ⟨h, e⟩ => ⟨h, e ▸ hs⟩)
 have EZ : Hid (V = false → R = Z) := Lib.hid (fun h => by rw [hR, hZ]; unfold rsp; rw [← hV, h]; rfl)
 have EQ : Hid (∀ w, (binOp .eql 34 (.agg R.toArray) (.agg R.toArray)).run Tryz.prog w = .ok (.bool true) w) := Lib.hid (fun w => by
  rw [hR, eqB w (rsp_len _ _ _ _ _) (rsp_len _ _ _ _ _)]; simp)
 have hr0 := Lib.hid hr
 rw [← hPL, ← hNV]
 clear hPL hNV hm hR hZ hV hsh hr hn
 cases sh with
 | false =>
  go_enter Tryz.func5, Tryz.ntmps5
  go_wp2_with (first | ((with_reducible refine Se.isL (o := ⟨some 14, _, _, _, _, _⟩) ?_); (refine Se.toL rfl (Se.ldw (o := ⟨some 14, _, _, _, _, _⟩) hs rfl rfl ((Reads.blk 1 rfl)) ((by rw [PLL.out]; kernel_rfl)) (by kernel_rfl) ?_))) | ((first | with_reducible refine Se.ab hs ?_ | with_reducible refine Se.abc hs ?_); clear hs; (first | ((fail_if_success (have _q := g5)); generalize w.heap.size = g5; intro w hs) | (generalize w.heap.size = g6; intro w hs))) | (go_at_call 6; refine Calls.mono (CS.out _ _ hs) ?_; clear hs; rintro e w ⟨rfl, hs⟩) | (go_at_call 7; refine Calls.mono (known_st hs) ?_; clear hs; rintro e w ⟨rfl, hs⟩))
  go_ret
  exact ⟨rfl, hs.drop.drop⟩
 | true =>
  have HB1 := Lib.hid (HB.out rfl)
  have CV1 := Lib.hid (CV.out rfl)
  have CR1 := Lib.hid (CR.out rfl)
  have CF1 := Lib.hid (CF.out rfl)
  clear HB CV CR CF
  cases V with
  | false =>
   obtain rfl := EZ.out rfl
   have heq := EQ.out
   clear EQ EZ CF1 CSm
   go_enter Tryz.func5, Tryz.ntmps5
   go_wp2_with (first | ((with_reducible refine Se.isL (o := ⟨some 14, _, _, _, _, _⟩) ?_); (refine Se.toL rfl (Se.ldw (o := ⟨some 14, _, _, _, _, _⟩) hs rfl rfl ((Reads.blk 1 rfl)) ((by rw [PLL.out]; kernel_rfl)) (by kernel_rfl) ?_))) | ((with_reducible refine Se.isL (o := ⟨some 19, _, _, _, _, _⟩) ?_); (refine Se.toL rfl (Se.ld (o := ⟨some 19, _, _, _, _, _⟩) hs rfl rfl (Cell.blk 1 rfl P0.out) (by kernel_rfl) ?_))) | ((with_reducible refine Se.isL (o := ⟨some 23, _, _, _, _, _⟩) ?_); (refine Se.toL rfl (Se.ldw (o := ⟨some 23, _, _, _, _, _⟩) hs rfl rfl ((Reads.blk 1 rfl)) ((by rw [NL.out]; kernel_rfl)) (by kernel_rfl) ?_))) | ((with_reducible refine Se.isL (o := ⟨some 27, _, _, _, _, _⟩) ?_); (refine Se.toL rfl (Se.ld (o := ⟨some 27, _, _, _, _, _⟩) hs rfl rfl (Cell.blk 2 rfl P1.out) (by kernel_rfl) ?_))) | ((with_reducible refine Se.isL (o := ⟨some 29, _, _, _, _, _⟩) ?_); (refine Se.toL rfl (Se.ld (o := ⟨some 29, _, _, _, _, _⟩) hs rfl rfl (Cell.blk 2 rfl P2.out) (by kernel_rfl) ?_))) | ((with_reducible refine Se.isL (o := ⟨some 12, _, _, _, _, _⟩) ?_); (refine Se.toL rfl (Se.al (o := ⟨some 12, _, _, _, _, _⟩) hs rfl (aJ.out) ?_); clear hs; rintro w g12 - hs)) | ((with_reducible refine Se.isL (o := ⟨none, _, _, _, _, _⟩) ?_); (refine Se.toL rfl (Se.sow 0 hs rfl rfl rfl rfl (RO.out) ((by rw [RL.out]; kernel_rfl)) ((by rw [RL.out])) ?_); clear hs; intro w hs; try simp only [List.cons_append, List.nil_append, List.set_cons_zero] at hs)) | ((with_reducible refine Se.isL (o := ⟨some 34, _, _, _, _, _⟩) ?_); (refine Se.toL rfl (Se.ldw (o := ⟨some 34, _, _, _, _, _⟩) hs rfl rfl ((Reads.blk 3 rfl)) ((by rw [PLL.out]; kernel_rfl)) (by kernel_rfl) ?_))) | ((with_reducible refine Se.isL (o := ⟨some 40, _, _, _, _, _⟩) ?_); (refine Se.toL rfl (Se.ldw (o := ⟨some 40, _, _, _, _, _⟩) hs rfl rfl ((Reads.blk 0 rfl)) ((by rw [RL.out]; kernel_rfl)) (by kernel_rfl) ?_))) | ((with_reducible refine Se.isL (o := ⟨some 41, _, _, _, _, _⟩) ?_); (refine Se.toL rfl (Se.bd (o := ⟨some 41, _, _, _, _, _⟩) rfl rfl (B3.out _) ?_))) | ((first | with_reducible refine Se.ab hs ?_ | with_reducible refine Se.abc hs ?_); clear hs; (first | ((fail_if_success (have _q := g5)); generalize w.heap.size = g5; intro w hs) | (generalize w.heap.size = g6; intro w hs))) | (go_at_call 6; refine Calls.mono (CS.out _ _ hs) ?_; clear hs; rintro e w ⟨rfl, hs⟩) | (go_at_call 13; refine Calls.mono (own_st hs (hr0.out.mono (by intro _ h; simp only [List.mem_cons, h, or_true])) SO.out SL.out (by have := HB1.out.1; omega)) ?_; clear hs; rintro e w ⟨A3, c3, r3, rfl, hs⟩) | (go_at_call 23; refine Calls.mono (CR1.out _ _ _ _ (Reads.own 0 rfl) hs) ?_; clear hs; rintro e w ⟨rfl, hs⟩) | (go_at_call 9; refine Calls.mono (CV1.out _ _ hs) ?_; clear hs; rintro e w ⟨rfl, hs⟩) | (go_at_call 7; refine Calls.mono (known_st hs) ?_; clear hs; rintro e w ⟨rfl, hs⟩))
   go_ret
   exact ⟨rfl, hs.drop.drop.drop.drop⟩
  | true =>
   have CF2 := Lib.hid (CF1.out rfl)
   have heq := EQ.out
   clear EQ EZ B3 CF1
   go_enter Tryz.func5, Tryz.ntmps5
   go_upto_region 7 with (first | ((with_reducible refine Se.isL (o := ⟨some 14, _, _, _, _, _⟩) ?_); (refine Se.toL rfl (Se.ldw (o := ⟨some 14, _, _, _, _, _⟩) hs rfl rfl ((Reads.blk 1 rfl)) ((by rw [PLL.out]; kernel_rfl)) (by kernel_rfl) ?_))) | ((with_reducible refine Se.isL (o := ⟨some 19, _, _, _, _, _⟩) ?_); (refine Se.toL rfl (Se.ld (o := ⟨some 19, _, _, _, _, _⟩) hs rfl rfl (Cell.blk 1 rfl P0.out) (by kernel_rfl) ?_))) | ((with_reducible refine Se.isL (o := ⟨some 23, _, _, _, _, _⟩) ?_); (refine Se.toL rfl (Se.ldw (o := ⟨some 23, _, _, _, _, _⟩) hs rfl rfl ((Reads.blk 1 rfl)) ((by rw [NL.out]; kernel_rfl)) (by kernel_rfl) ?_))) | ((with_reducible refine Se.isL (o := ⟨some 27, _, _, _, _, _⟩) ?_); (refine Se.toL rfl (Se.ld (o := ⟨some 27, _, _, _, _, _⟩) hs rfl rfl (Cell.blk 2 rfl P1.out) (by kernel_rfl) ?_))) | ((with_reducible refine Se.isL (o := ⟨some 29, _, _, _, _, _⟩) ?_); (refine Se.toL rfl (Se.ld (o := ⟨some 29, _, _, _, _, _⟩) hs rfl rfl (Cell.blk 2 rfl P2.out) (by kernel_rfl) ?_))) | ((with_reducible refine Se.isL (o := ⟨some 12, _, _, _, _, _⟩) ?_); (refine Se.toL rfl (Se.al (o := ⟨some 12, _, _, _, _, _⟩) hs rfl (aJ.out) ?_); clear hs; rintro w g12 - hs)) | ((with_reducible refine Se.isL (o := ⟨none, _, _, _, _, _⟩) ?_); (refine Se.toL rfl (Se.sow 0 hs rfl rfl rfl rfl (RO.out) ((by rw [RL.out]; kernel_rfl)) ((by rw [RL.out, ZL.out])) ?_); clear hs; intro w hs; try simp only [List.cons_append, List.nil_append, List.set_cons_zero] at hs)) | ((with_reducible refine Se.isL (o := ⟨some 34, _, _, _, _, _⟩) ?_); (refine Se.toL rfl (Se.ldw (o := ⟨some 34, _, _, _, _, _⟩) hs rfl rfl ((Reads.blk 3 rfl)) ((by rw [PLL.out]; kernel_rfl)) (by kernel_rfl) ?_))) | ((first | with_reducible refine Se.ab hs ?_ | with_reducible refine Se.abc hs ?_); clear hs; (first | ((fail_if_success (have _q := g5)); generalize w.heap.size = g5; intro w hs) | (generalize w.heap.size = g6; intro w hs))) | (go_at_call 6; refine Calls.mono (CS.out _ _ hs) ?_; clear hs; rintro e w ⟨rfl, hs⟩) | (go_at_call 13; refine Calls.mono (own_st hs (hr0.out.mono (by intro _ h; simp only [List.mem_cons, h, or_true])) SO.out SL.out (by have := HB1.out.1; omega)) ?_; clear hs; rintro e w ⟨A3, c3, r3, rfl, hs⟩) | (go_at_call 23; refine Calls.mono (CR1.out _ _ _ _ (Reads.own 0 rfl) hs) ?_; clear hs; rintro e w ⟨rfl, hs⟩) | (go_at_call 9; refine Calls.mono (CV1.out _ _ hs) ?_; clear hs; rintro e w ⟨rfl, hs⟩))
   clear CS CV1 CR1
   have SP := Lib.hid (show ∀ w, (∀ a ∈ .blk g12 34 R :: .own 1 r3 A3 m c3 (p.sec.map v8) :: .blk g6 34 NV :: .blk g5 24 PL :: L, a.holds w) → Blk w g12 R 34 ∧ Blk w g6 NV 34 ∧ Blk w g5 PL 24 from fun w h => ⟨h (.blk g12 34 R) (by simp), h (.blk g6 34 NV) (by simp), h (.blk g5 24 PL) (by simp)⟩)
   refine Ch.region' 22 (fun wx => Blk wx g12 R 34 ∧ Blk wx g6 NV 34 ∧ Blk wx g5 PL 24) (fun | 9 => true | 16 => true | 19 => true | _ => false) (by kernel_rfl) (by decide +kernel) (SP.out _ hs.drew.hold) ?_
   replace hs := hs.drew
   generalize w.drew = w at hs ⊢
   change Ch.CW _ _ _ _ _ [0, 1, 2, 3, 4, 5, 6, 7, 8, 9, 10, 11, 12, 13, 14, 15, 16, 17, 18, 19, 20, 21] _ _
   iterate 9 ((first | (refine Ch.pure (v := ?_) (by rfl) (by rfl) (by rfl) (fun wx hS => ?_) ?_; rotate_left; (focus (go_simp; (first | done | with_reducible rfl)))) | refine Ch.pure (v := _) (by rfl) (by rfl) (by rfl) (fun wx hS => Se.xla rfl rfl (Li.Rd.of_blk hS.1) (by rw [RL.out]; kernel_rfl) (by decide +kernel)) ?_ | refine Ch.pure (v := _) (by rfl) (by rfl) (by rfl) (fun wx hS => Se.xla rfl rfl (Li.Rd.of_blk hS.2.1) (by rw [NL.out]; kernel_rfl) (by decide +kernel)) ?_ | refine Ch.pure (v := _) (by rfl) (by rfl) (by rfl) (fun wx hS => Se.xla rfl rfl (Li.Rd.of_blk hS.2.2) (by rw [PLL.out]; kernel_rfl) (by decide +kernel)) ?_); (try simp only [Act.put, List.setIfInBounds_toArray, List.set_cons_zero, List.set_cons_succ]))
   refine Ch.noise (by rfl) (by rfl) (by rfl) ?_
   refine Se.gcall (f := 24) (args := #[.agg PL.toArray, .agg NV.toArray, .int .u32 (n32 s), .int .u16 (n16 q), .bool b]) ?_ ?_
   ·go_simp
   refine Calls.mono (CF2.out [_, _, _, _] _ hs) ?_
   clear hs
   rintro e w ⟨rfl, hs⟩
   refine ⟨_, rfl, SP.out _ hs.hold, ?_⟩
   (try simp only [Act.put, List.setIfInBounds_toArray, List.set_cons_zero, List.set_cons_succ])
   iterate 6 ((first | (refine Ch.pure (v := ?_) (by rfl) (by rfl) (by rfl) (fun wx hS => ?_) ?_; rotate_left; (focus (go_simp; (first | done | with_reducible rfl)))) | refine Ch.pure (v := _) (by rfl) (by rfl) (by rfl) (fun wx hS => Se.xl rfl rfl ((hS.2.2.cell _).trans P0.out) (by decide +kernel)) ?_); (try simp only [Act.put, List.setIfInBounds_toArray, List.set_cons_zero, List.set_cons_succ]))
   refine Ch.noise (by rfl) (by rfl) (by rfl) ?_
   refine Se.gcall (f := 12) (args := #[.slice A3 m c3, .slice A m c]) ?_ ?_
   ·go_simp
   refine Calls.mono (CSm.out [_, _, _, _] _ _ _ (Reads.own 1 rfl) hs) ?_
   clear hs
   rintro e w ⟨rfl, hs⟩
   refine ⟨_, rfl, SP.out _ hs.hold, ?_⟩
   (try simp only [Act.put, List.setIfInBounds_toArray, List.set_cons_zero, List.set_cons_succ])
   iterate 2 (refine Ch.pure (v := ?_) (by rfl) (by rfl) (by rfl) (fun wx hS => ?_) ?_; rotate_left; (focus (go_simp; (first | done | with_reducible rfl))); (try simp only [Act.put, List.setIfInBounds_toArray, List.set_cons_zero, List.set_cons_succ]))
   refine Ch.noise (by rfl) (by rfl) (by rfl) ?_
   refine Se.gcall (f := 7) (args := #[]) ?_ ?_
   ·go_simp
   refine Calls.mono (known_st hs) ?_
   clear hs
   rintro e w ⟨rfl, hs⟩
   refine ⟨_, rfl, SP.out _ hs.hold, ?_⟩
   (try simp only [Act.put, List.setIfInBounds_toArray, List.set_cons_zero, List.set_cons_succ])
   iterate 2 (refine Ch.pure (v := ?_) (by rfl) (by rfl) (by rfl) (fun wx hS => ?_) ?_; rotate_left; (focus (go_simp; (first | done | with_reducible rfl))); (try simp only [Act.put, List.setIfInBounds_toArray, List.set_cons_zero, List.set_cons_succ]))
   refine Ch.done ?_
   try simp only [List.drop_succ_cons, List.drop_zero]
   go_wp2_with fail
   go_ret
   exact ⟨rfl, hs.drop.drop.drop.drop⟩
theorem responses_any (W : World) {p : Pn} {A : Option Addr} {c : Nat} (hr : Rd W A (p.sec.map v8)) {nonce : Bs} (hn : nonce.length = 32) (s : BitVec 32) (q : BitVec 16) (b : Bool) :
  Calls Tryz.prog 5 #[.agg (pcl p A c).toArray, .agg (nonce.map v8).toArray, .int .u32 (n32 s), .int .u16 (n16 q), .bool b] W fun e w' => e = .returned (.bool true) ∧ Below W.heap.size W w' :=
 (responses_st (St.start (L := [.rd A (p.sec.map v8)]) W (fun a ha => by rw [List.mem_singleton.1 ha]; exact hr) rfl) p A c (Reads.rd 0 rfl) nonce hn s q b).mono fun _ _ ⟨h1, h2⟩ => ⟨h1, h2.below⟩
end Au
end Go.Proofs.YtakdoijemopejaaGreat

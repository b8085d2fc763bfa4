/- Layer 38: the program's response as a function. No condition but Go's own limits. -/
import Derived.Test.YtakdoijemopejaaGreatAuR2
set_option linter.unusedSimpArgs false
set_option linter.unusedVariables false
namespace Go.Proofs.YtakdoijemopejaaGreat
open Go Go.RowKit
namespace Au
open Se (St At Reads Cell)
open Li (v8 v8_one Rd Blk Fr)
open Bv (n8 n16 n32 n64)
variable {w0 w : World} {X : List Nat} {L M : List At}
attribute [local irreducible] Calls
theorem head_bd (q : BitVec 16) (s : BitVec 32) (w : World) : (Instr.build 67 #[(2, .int .u16 (n16 q)), (3, .int .u32 (n32 s))]).run Tryz.prog w = .ok (.agg (hc ⟨0#8, 0#8, q, s⟩).toArray) w := by kernel_rfl
theorem z32_bd (w : World) : (Instr.build 34 #[]).run Tryz.prog w = .ok (.agg (z32.map v8).toArray) w := by kernel_rfl
theorem partyI : (Tryz.prog.info? 65).bind (fun i => i.zero.map (·.cells.toList)) = some [.slice none 0 0, .string ⟨#[]⟩, .string ⟨#[]⟩] := by kernel_rfl
/-- What the response is of a party whose terms hold, and of another. -/
def rsp (p : Pn) (nonce : Bs) (q : BitVec 16) (s : BitVec 32) (b : Bool) : Bs := if valid p.py then resp p.py nonce ⟨0#8, 0#8, q, s⟩ (if b then 67#8 else 72#8) else z32
theorem rsp_len (p : Pn) (nonce : Bs) (q : BitVec 16) (s : BitVec 32) (b : Bool) : (rsp p nonce q s b).length = 32 := by
 unfold rsp
 split
 ·unfold resp; simp [Sha.hmacL, Sha.shaL_length]
 ·rfl
set_option maxRecDepth 100000 in
set_option maxHeartbeats 4000000 in
theorem response_st (hs : St w0 X L w) (p : Pn) (A : Option Addr) (c : Nat) (nonce : Bs) (q : BitVec 16) (s : BitVec 32) (b : Bool) (hr : Reads L A (p.sec.map v8)) (hk : p.sec.length ≤ 1000) (hn : nonce.length = 32) (h1 : p.hs.size ≤ 240) (h2 : p.sb.size ≤ 240) :
  Calls Tryz.prog 23 #[.slice A p.sec.length c, .agg (nonce.map v8).toArray, .int .u32 (n32 s), .int .u16 (n16 q), .string p.hs, .string p.sb, .bool b] w fun e w' => e = .returned (.tuple #[.agg ((rsp p nonce q s b).map v8).toArray, .int .i64 (if valid p.py then 0 else 2)]) ∧ St w0 X L w' := by
 obtain ⟨PL, hPL⟩ : ∃ PL, PL = pcl p A c := ⟨_, rfl⟩
 obtain ⟨NV, hNV⟩ : ∃ NV, NV = nonce.map v8 := ⟨_, rfl⟩
 obtain ⟨V, hV⟩ : ∃ V, V = valid p.py := ⟨_, rfl⟩
 obtain ⟨R, hR⟩ : ∃ R, R = (rsp p nonce q s b).map v8 := ⟨_, rfl⟩
 obtain ⟨Z, hZ⟩ : ∃ Z, Z = z32.map v8 := ⟨_, rfl⟩
 obtain ⟨HL, hHL⟩ : ∃ HL, HL = hc ⟨0#8, 0#8, q, s⟩ := ⟨_, rfl⟩
 have B1 := Lib.hid (show ∀ w : World, (Instr.build 65 #[(0, .slice A p.sec.length c), (1, .string p.hs), (2, .string p.sb)]).run Tryz.prog w = .ok (.agg PL.toArray) w by rw [hPL]; intro w; kernel_rfl)
 have B2 := Lib.hid (show ∀ w : World, (Instr.build 67 #[(2, .int .u16 (n16 q)), (3, .int .u32 (n32 s))]).run Tryz.prog w = .ok (.agg HL.toArray) w by rw [hHL]; exact head_bd q s)
 have B3 := Lib.hid (show ∀ w : World, (Instr.build 34 #[]).run Tryz.prog w = .ok (.agg Z.toArray) w by rw [hZ]; exact z32_bd)
 have PLL := Lib.hid (show PL.length = 3 by rw [hPL]; rfl)
 have PO := Lib.hid (show ∀ v ∈ PL, v.oneCell' = true by rw [hPL]; exact pcl_one p A c)
 have NL := Lib.hid (show NV.length = 32 by rw [hNV]; simpa using hn)
 have ZL := Lib.hid (show Z.length = 32 by rw [hZ]; rfl)
 have ZO := Lib.hid (show ∀ v ∈ Z, v.oneCell' = true by rw [hZ]; exact v8_one _)
 have RL := Lib.hid (show R.length = 32 by rw [hR, List.length_map, rsp_len])
 have RO := Lib.hid (show ∀ v ∈ R, v.oneCell' = true by rw [hR]; exact v8_one _)
 have aJ := Lib.hid a32J
 rw [← hZ] at aJ
 have CV : Hid (∀ (L' : List At) (w : World), St w0 X L' w → Calls Tryz.prog 38 #[.agg PL.toArray] w fun e w' => e = .returned (.bool V) ∧ St w0 X L' w') := Lib.hid (fun L' w hs => by rw [hPL, hV]; exact valid_st hs p A c h1 h2 hk)
 have HK : Hid (V = true → p.sec.length ≤ 64) := Lib.hid (fun h => by
  rw [hV] at h
  simp only [valid, Bool.and_eq_true, decide_eq_true_eq] at h
  exact h.2)
 have HRF : Hid (V = false → R = Z) := Lib.hid (fun h => by rw [hR, hZ]; unfold rsp; rw [← hV, h]; rfl)
 have CR : Hid (V = true → ∀ (M : List At) (w : World), St w0 X (M ++ L) w → Calls Tryz.prog 35 #[.agg PL.toArray, .agg NV.toArray, .agg HL.toArray, .int .u8 (if b then 67 else 72)] w fun e w' => e = .returned (.agg R.toArray) ∧ St w0 X (M ++ L) w') := Lib.hid (fun h M w hs => by
  have hk64 := HK.out h
  have e : R = (resp p.py nonce ⟨0#8, 0#8, q, s⟩ (if b then 67#8 else 72#8)).map v8 := by rw [hR]; unfold rsp; rw [← hV, h]; rfl
  rw [e, hPL, hNV, hHL, show (Value.int .u8 (if b then 67 else 72)) = .int .u8 (n8 (if b then 67#8 else 72#8)) by cases b <;> rfl]
  exact resp_st hs p A c nonce _ _ (hr.app M) hk64 hn h1 h2)
 rw [← hNV, ← hV, ← hR]
 clear hPL hNV hV hR hZ hHL hk hn h1 h2 hr HK
 cases V with
 | false =>
  obtain rfl := HRF.out rfl
  clear HRF CR
  go_enter Tryz.func23, Tryz.ntmps23
  go_wp2_with (first | ((with_reducible refine Se.isL (o := ⟨some 14, _, _, _, _, _⟩) ?_); (refine Se.toL rfl (Se.al (o := ⟨some 14, _, _, _, _, _⟩) hs rfl (aJ.out) ?_); clear hs; rintro w g14 - hs)) | ((with_reducible refine Se.isL (o := ⟨some 21, _, _, _, _, _⟩) ?_); (refine Se.toL rfl (Se.bd (o := ⟨some 21, _, _, _, _, _⟩) rfl rfl (B1.out _) ?_))) | ((with_reducible refine Se.isL (o := ⟨some 16, _, _, _, _, _⟩) ?_); (refine Se.toL rfl (Se.al (o := ⟨some 16, _, _, _, _, _⟩) hs rfl (partyI) ?_); clear hs; rintro w g16 - hs)) | ((with_reducible refine Se.isL (o := ⟨none, Op.store 65 _ _, _, _, _, _⟩) ?_); (refine Se.toL rfl (Se.sow 0 hs rfl rfl rfl rfl (PO.out) ((by rw [PLL.out]; kernel_rfl)) ((by rw [PLL.out]; rfl)) ?_); clear hs; intro w hs; try simp only [List.cons_append, List.nil_append, List.set_cons_zero] at hs)) | ((with_reducible refine Se.isL (o := ⟨some 22, _, _, _, _, _⟩) ?_); (refine Se.toL rfl (Se.ldw (o := ⟨some 22, _, _, _, _, _⟩) hs rfl rfl ((Reads.blk 0 rfl)) ((by rw [PLL.out]; kernel_rfl)) (by kernel_rfl) ?_))) | ((with_reducible refine Se.isL (o := ⟨some 25, _, _, _, _, _⟩) ?_); (refine Se.toL rfl (Se.bd (o := ⟨some 25, _, _, _, _, _⟩) rfl rfl (B3.out _) ?_))) | ((with_reducible refine Se.isL (o := ⟨none, Op.store 34 _ _, _, _, _, _⟩) ?_); (refine Se.toL rfl (Se.sow 1 hs rfl rfl rfl rfl (ZO.out) ((by rw [ZL.out]; kernel_rfl)) ((by rw [ZL.out])) ?_); clear hs; intro w hs; try simp only [List.cons_append, List.nil_append, List.set_cons_zero, List.set_cons_succ] at hs)) | ((first | with_reducible refine Se.ab hs ?_ | with_reducible refine Se.abc hs ?_); clear hs; (first | (generalize w.heap.size = gn; intro w hs))) | (go_at_call 38; refine Calls.mono (CV.out _ _ hs) ?_; clear hs; rintro e w ⟨rfl, hs⟩))
  refine Se.ret hs [.agg R.toArray, .int .i64 2] rfl ⟨Se.resRow rfl (Reads.blk 1 rfl) (by kernel_rfl) (by rw [RL.out]; kernel_rfl), rfl, trivial⟩ (by simp) rfl ?_
  exact ⟨rfl, hs.drop.drop.drop⟩
 | true =>
  have CR2 := Lib.hid (CR.out rfl)
  clear HRF CR B3
  cases b with
  | false =>
   go_enter Tryz.func23, Tryz.ntmps23
   go_wp2_with (first | ((with_reducible refine Se.isL (o := ⟨some 14, _, _, _, _, _⟩) ?_); (refine Se.toL rfl (Se.al (o := ⟨some 14, _, _, _, _, _⟩) hs rfl (aJ.out) ?_); clear hs; rintro w g14 - hs)) | ((with_reducible refine Se.isL (o := ⟨some 21, _, _, _, _, _⟩) ?_); (refine Se.toL rfl (Se.bd (o := ⟨some 21, _, _, _, _, _⟩) rfl rfl (B1.out _) ?_))) | ((with_reducible refine Se.isL (o := ⟨some 16, _, _, _, _, _⟩) ?_); (refine Se.toL rfl (Se.al (o := ⟨some 16, _, _, _, _, _⟩) hs rfl (partyI) ?_); clear hs; rintro w g16 - hs)) | ((with_reducible refine Se.isL (o := ⟨none, Op.store 65 _ _, _, _, _, _⟩) ?_); (refine Se.toL rfl (Se.sow 0 hs rfl rfl rfl rfl (PO.out) ((by rw [PLL.out]; kernel_rfl)) ((by rw [PLL.out]; rfl)) ?_); clear hs; intro w hs; try simp only [List.cons_append, List.nil_append, List.set_cons_zero] at hs)) | ((with_reducible refine Se.isL (o := ⟨some 22, _, _, _, _, _⟩) ?_); (refine Se.toL rfl (Se.ldw (o := ⟨some 22, _, _, _, _, _⟩) hs rfl rfl ((Reads.blk 0 rfl)) ((by rw [PLL.out]; kernel_rfl)) (by kernel_rfl) ?_))) | ((with_reducible refine Se.isL (o := ⟨some 27, _, _, _, _, _⟩) ?_); (refine Se.toL rfl (Se.ldw (o := ⟨some 27, _, _, _, _, _⟩) hs rfl rfl ((Reads.blk 0 rfl)) ((by rw [PLL.out]; kernel_rfl)) (by kernel_rfl) ?_))) | ((with_reducible refine Se.isL (o := ⟨some 28, _, _, _, _, _⟩) ?_); (refine Se.toL rfl (Se.ldw (o := ⟨some 28, _, _, _, _, _⟩) hs rfl rfl ((Reads.blk 2 rfl)) ((by rw [NL.out]; kernel_rfl)) (by kernel_rfl) ?_))) | ((with_reducible refine Se.isL (o := ⟨some 31, _, _, _, _, _⟩) ?_); (refine Se.toL rfl (Se.bd (o := ⟨some 31, _, _, _, _, _⟩) rfl rfl (B2.out _) ?_))) | ((with_reducible refine Se.isL (o := ⟨none, Op.store 34 _ _, _, _, _, _⟩) ?_); (refine Se.toL rfl (Se.sow 1 hs rfl rfl rfl rfl (RO.out) ((by rw [RL.out]; kernel_rfl)) ((by rw [RL.out, ZL.out])) ?_); clear hs; intro w hs; try simp only [List.cons_append, List.nil_append, List.set_cons_zero, List.set_cons_succ] at hs)) | ((first | with_reducible refine Se.ab hs ?_ | with_reducible refine Se.abc hs ?_); clear hs; (first | (generalize w.heap.size = gn; intro w hs))) | (go_at_call 38; refine Calls.mono (CV.out _ _ hs) ?_; clear hs; rintro e w ⟨rfl, hs⟩) | (go_at_call 35; refine Calls.mono (CR2.out [_, _, _] _ hs) ?_; clear hs; rintro e w ⟨rfl, hs⟩))
   refine Se.ret hs [.agg R.toArray, .int .i64 0] rfl ⟨Se.resRow rfl (Reads.blk 1 rfl) (by kernel_rfl) (by rw [RL.out]; kernel_rfl), rfl, trivial⟩ (by simp) rfl ?_
   exact ⟨rfl, hs.drop.drop.drop⟩
  | true =>
   go_enter Tryz.func23, Tryz.ntmps23
   go_wp2_with (first | ((with_reducible refine Se.isL (o := ⟨some 14, _, _, _, _, _⟩) ?_); (refine Se.toL rfl (Se.al (o := ⟨some 14, _, _, _, _, _⟩) hs rfl (aJ.out) ?_); clear hs; rintro w g14 - hs)) | ((with_reducible refine Se.isL (o := ⟨some 21, _, _, _, _, _⟩) ?_); (refine Se.toL rfl (Se.bd (o := ⟨some 21, _, _, _, _, _⟩) rfl rfl (B1.out _) ?_))) | ((with_reducible refine Se.isL (o := ⟨some 16, _, _, _, _, _⟩) ?_); (refine Se.toL rfl (Se.al (o := ⟨some 16, _, _, _, _, _⟩) hs rfl (partyI) ?_); clear hs; rintro w g16 - hs)) | ((with_reducible refine Se.isL (o := ⟨none, Op.store 65 _ _, _, _, _, _⟩) ?_); (refine Se.toL rfl (Se.sow 0 hs rfl rfl rfl rfl (PO.out) ((by rw [PLL.out]; kernel_rfl)) ((by rw [PLL.out]; rfl)) ?_); clear hs; intro w hs; try simp only [List.cons_append, List.nil_append, List.set_cons_zero] at hs)) | ((with_reducible refine Se.isL (o := ⟨some 22, _, _, _, _, _⟩) ?_); (refine Se.toL rfl (Se.ldw (o := ⟨some 22, _, _, _, _, _⟩) hs rfl rfl ((Reads.blk 0 rfl)) ((by rw [PLL.out]; kernel_rfl)) (by kernel_rfl) ?_))) | ((with_reducible refine Se.isL (o := ⟨some 27, _, _, _, _, _⟩) ?_); (refine Se.toL rfl (Se.ldw (o := ⟨some 27, _, _, _, _, _⟩) hs rfl rfl ((Reads.blk 0 rfl)) ((by rw [PLL.out]; kernel_rfl)) (by kernel_rfl) ?_))) | ((with_reducible refine Se.isL (o := ⟨some 28, _, _, _, _, _⟩) ?_); (refine Se.toL rfl (Se.ldw (o := ⟨some 28, _, _, _, _, _⟩) hs rfl rfl ((Reads.blk 2 rfl)) ((by rw [NL.out]; kernel_rfl)) (by kernel_rfl) ?_))) | ((with_reducible refine Se.isL (o := ⟨some 31, _, _, _, _, _⟩) ?_); (refine Se.toL rfl (Se.bd (o := ⟨some 31, _, _, _, _, _⟩) rfl rfl (B2.out _) ?_))) | ((with_reducible refine Se.isL (o := ⟨none, Op.store 34 _ _, _, _, _, _⟩) ?_); (refine Se.toL rfl (Se.sow 1 hs rfl rfl rfl rfl (RO.out) ((by rw [RL.out]; kernel_rfl)) ((by rw [RL.out, ZL.out])) ?_); clear hs; intro w hs; try simp only [List.cons_append, List.nil_append, List.set_cons_zero, List.set_cons_succ] at hs)) | ((first | with_reducible refine Se.ab hs ?_ | with_reducible refine Se.abc hs ?_); clear hs; (first | (generalize w.heap.size = gn; intro w hs))) | (go_at_call 38; refine Calls.mono (CV.out _ _ hs) ?_; clear hs; rintro e w ⟨rfl, hs⟩) | (go_at_call 35; refine Calls.mono (CR2.out [_, _, _] _ hs) ?_; clear hs; rintro e w ⟨rfl, hs⟩))
   refine Se.ret hs [.agg R.toArray, .int .i64 0] rfl ⟨Se.resRow rfl (Reads.blk 1 rfl) (by kernel_rfl) (by rw [RL.out]; kernel_rfl), rfl, trivial⟩ (by simp) rfl ?_
   exact ⟨rfl, hs.drop.drop.drop⟩
end Au
end Go.Proofs.YtakdoijemopejaaGreat

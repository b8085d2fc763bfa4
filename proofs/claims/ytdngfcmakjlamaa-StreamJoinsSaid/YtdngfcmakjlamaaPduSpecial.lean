/- Layer 35: the reference's special. No condition but Go's own limits. Printed by wip/gen_pduspecial.py. -/
import Derived.Test.YtdngfcmakjlamaaPduRef
import Derived.Test.YtdngfcmakjlamaaPduEnc
set_option linter.unusedSimpArgs false
set_option linter.unusedVariables false
namespace Go.Proofs.Ytdngfcmakjlamaa
open Go Go.RowKit
namespace Pd
open Se (St At Reads Cell)
open Li (v8 v8_one Rd Blk Fr)
open Bv (n8 n16 n32 n64)
variable {w0 w wx : World} {X : List Nat} {L : List At}
attribute [local irreducible] Calls
theorem Nzero {W0 : World} (hS : Hv.Ext W0 wx) (n : Nat) {o : Oper} {a : Act} {x y : Operand} (ho : o.op = .makeSlice 24 x y) (hx : a.eval x = .int .i64 (n : Int)) (hy : a.eval y = .int .i64 (n : Int)) (hn : n ≤ 1000) :
  Hv.Gives Try.prog o a wx fun v w' => Hv.Ext wx w' ∧ (Nown W0 n ((zs n).map v8)).vv v ∧ (Nown W0 n ((zs n).map v8)).ww v w' := by
 have hs : St wx [] [] wx := St.start wx (by simp) rfl
 refine Se.mk hs ho Try.underlying24 u8i3 rfl n n hx hy rfl rfl (Nat.le_refl _) (by omega) (by omega) ?_
 intro w' g _ h
 have e : ∀ n : Nat, (List.replicate n ((Value.int .u8 0).cells.toList)).flatten = (zs n).map v8 := by
  intro n
  induction n with
  | zero => rfl
  | succ n ih => rw [List.replicate_succ, List.flatten_cons, ih]; rfl
 rw [e] at h
 have k := h.blk_own 1 n n (by simp) (Nat.le_refl _) (by unfold maxLen; omega)
 rw [List.take_of_length_le (by simp)] at k
 exact Nown_new hS k
theorem flat5 (a b c d e : Pt) : flat [a, b, c, d, e] = a.bs ++ b.bs ++ c.bs ++ d.bs ++ e.bs := by simp [flat]
theorem little_any (w : World) (v : BitVec 32) (n : Nat) (hn : n ≤ 4) : Calls Try.prog 41 #[.int .u32 (n32 v), .int .i64 n] w fun e w' => ∃ r B c, e = .returned (.slice B n c) ∧ St w [] [.own 1 r B n c ((numL v n).map v8)] w' :=
 rLittle_st (St.start w (by simp) rfl) v n hn
theorem join_np (w : World) {b k : Nat} {bs : List (BitVec 8)} (h : (Nparts k bs).ww (.slice (some ⟨b, 0, none⟩) k k) w) {q : Nat} (hq : q = bs.length) (hm : q ≤ 70368744177664) (hkl : k ≤ 1000) :
  Calls Try.prog 40 #[.slice (some ⟨b, 0, none⟩) k k] w fun e w' => ∃ r B c', e = .returned (.slice B q c') ∧ St w [] [.own 1 r B q c' (bs.map v8)] w' := by
 obtain ⟨l, h1, h2, h3, h4⟩ := h b rfl
 refine (rjoin_st (start_rd w l h2 h3) l h1.symm (Reads.rd 0 rfl) (fun p hp => Reads.rdm (List.mem_cons_of_mem _ (List.mem_map.2 ⟨p, hp, rfl⟩))) h4 hq hm hkl).mono ?_
 rintro e w' ⟨r, B, c, h1, h2⟩
 exact ⟨r, B, c, h1, one_of h2⟩
section
attribute [local go_sem] Bv.wrap_n32_of Bv.of32_n16
set_option maxRecDepth 100000 in
set_option maxHeartbeats 4000000 in
theorem rspecial_any (w : World) (p : PDU) (hv : valid p = true) {EA DA : Option Addr} {en ec dn dc : Nat} (hE : Rd w EA (p.en.map v8)) (he : en = p.en.length) (hd : dn = p.da.length) {q : Nat} (hq : q = (special p).length) :
  Calls Try.prog 42 #[.agg (pc p.h EA en ec DA dn dc).toArray] w fun e w' => ∃ A c, e = .returned (.slice A q c) ∧ Rd w' A ((special p).map v8) ∧ Below w.heap.size w w' := by
 obtain ⟨w1, hw1⟩ : ∃ w1, w1 = w := ⟨_, rfl⟩
 have hs : St w1 [] [.rd EA (p.en.map v8)] w := by rw [hw1]; exact rd1 hE
 have HW : Hid (∀ w', Below w1.heap.size w1 w' → Below w.heap.size w w') := Lib.hid (by rw [hw1]; exact fun _ h => h)
 clear hw1
 have hE : Reads [.rd EA (p.en.map v8)] EA (p.en.map v8) := Reads.rd 0 rfl
 obtain ⟨LL, hLL⟩ : ∃ LL, LL = [At.rd EA (p.en.map v8)] := ⟨_, rfl⟩
 rw [← hLL] at hs hE
 clear hLL
 obtain ⟨k, hk⟩ : ∃ k, k = p.h.k.toNat := ⟨_, rfl⟩
 have hkl : k < 256 := by rw [hk]; exact p.h.k.isLt
 have wk : IntKind.i64.wrap (k : Int) = k := IntWalk.i64_in _ (by omega)
 obtain ⟨PL, hP⟩ : ∃ PL, PL = pc p.h EA en ec DA dn dc := ⟨_, rfl⟩
 have PLL := Lib.hid (show PL.length = 14 by rw [hP]; rfl)
 have P0 := Lib.hid (show PL[0]? = some (.int .u8 (k : Int)) by rw [hP, hk]; rfl)
 have P1 := Lib.hid (show PL[1]? = some (.bool p.h.la) by rw [hP]; rfl)
 have P2 := Lib.hid (show PL[2]? = some (.bool p.h.su) by rw [hP]; rfl)
 have P3 := Lib.hid (show PL[3]? = some (.slice EA en ec) by rw [hP]; rfl)
 have P4 := Lib.hid (show PL[4]? = some (.int .u16 (n16 p.h.id)) by rw [hP]; rfl)
 have P5 := Lib.hid (show PL[5]? = some (.int .u16 (n16 p.h.tg)) by rw [hP]; rfl)
 have P6 := Lib.hid (show PL[6]? = some (.int .u32 (n32 p.h.of)) by rw [hP]; rfl)
 have P7 := Lib.hid (show PL[7]? = some (.int .u32 (n32 p.h.ln)) by rw [hP]; rfl)
 have P8 := Lib.hid (show PL[8]? = some (.int .u8 (n8 p.h.al)) by rw [hP]; rfl)
 have P9 := Lib.hid (show PL[9]? = some (.int .u8 (n8 p.h.dg)) by rw [hP]; rfl)
 have P10 := Lib.hid (show PL[10]? = some (.int .u32 (n32 p.h.mx)) by rw [hP]; rfl)
 have P11 := Lib.hid (show PL[11]? = some (.int .u16 (n16 p.h.st)) by rw [hP]; rfl)
 have P12 := Lib.hid (show PL[12]? = some (.int .u32 (n32 p.h.nf)) by rw [hP]; rfl)
 have P13 := Lib.hid (show PL[13]? = some (.slice DA dn dc) by rw [hP]; rfl)
 have hks : (k = 0 ∨ k = 1) ∨ (k = 2 ∨ k = 3) ∨ (k = 4 ∨ k = 5) ∨ k = 9 ∨ (k = 6 ∨ k = 7) := by
  have h1 : hdr k ≠ 0 := by
   have := hv
   unfold valid at this
   simp only [Bool.and_eq_true, decide_eq_true_eq] at this
   rw [hk]; exact this.1.1.1
  unfold hdr at h1
  split at h1 <;> first | omega | (exact absurd rfl h1)
 have hel : (k = 4 ∨ k = 5) → p.en = special p := by
  intro h; unfold special; rw [← hk]; rcases h with h | h <;> rw [h] <;> rfl
 have hz : (k = 0 ∨ k = 1) → special p = [0#8, 0#8, p.h.al, p.h.dg] ++ numL p.h.mx 4 ++ zs 112 := by
  intro h; unfold special; rw [← hk]; rcases h with h | h <;> rw [h] <;> rfl
 have h2 : (k = 2 ∨ k = 3) → special p = numL (p.h.st.setWidth 32) 2 ++ numL p.h.nf 4 ++ zs 10 := by
  intro h; unfold special; rw [← hk]; rcases h with h | h <;> rw [h] <;> rfl
 have h9 : k = 9 → special p = numL (p.h.id.setWidth 32) 2 ++ numL (p.h.tg.setWidth 32) 2 ++ numL p.h.of 4 ++ numL p.h.ln 4 ++ zs 4 := by
  intro h; unfold special; rw [← hk, h]; rfl
 have h6 : (k = 6 ∨ k = 7) → special p = numL (p.h.id.setWidth 32) 2 ++ numL (p.h.tg.setWidth 32) 2 ++ numL p.h.of 4 ++ numL (BitVec.ofNat 32 dn) 4 ++ zs 4 := by
  intro h; unfold special; rw [← hk, hd]; rcases h with h | h <;> rw [h] <;> rfl
 obtain ⟨sp, hsp⟩ : ∃ sp, special p = sp := ⟨_, rfl⟩
 rw [hsp] at hz hel h2 h9 h6 hq
 have HE := Lib.hid hE
 have HQ := Lib.hid hq
 have HEN := Lib.hid he
 rw [← hP, hsp]
 have H0 := Lib.hid hz
 have HL := Lib.hid hel
 have H2 := Lib.hid h2
 have H9 := Lib.hid h9
 have H6 := Lib.hid h6
 clear hP hE he hd hq hk hkl hz hel h2 h9 h6 hsp hv
 rcases hks with h01 | h23 | h45 | h9 | h67
 ·have EQ := Lib.hid (H0.out h01)
  clear H0 HL H2 H9 H6
  rcases h01 with rfl | rfl
  all_goals
   go_enter Try.func42, Try.ntmps42
   go_upto_region 4 with (first | ((with_reducible refine Se.isL (o := ⟨some 4, _, _, _, _, _⟩) ?_); (refine Se.toL rfl (Se.ld (o := ⟨some 4, _, _, _, _, _⟩) hs rfl rfl (Cell.blk 0 rfl P0.out) (by kernel_rfl) ?_))) | ((first | with_reducible refine Se.ab hs ?_ | with_reducible refine Se.abc hs ?_); clear hs; (first | (generalize w.heap.size = g1; intro w hs))))
   refine Hv.grow 12 (fun | 4 => some (Hv.row [v8 0#8, v8 0#8, v8 p.h.al, v8 p.h.dg] 5) | 7 => some (Nown w 4 ((numL p.h.mx 4).map v8)) | 8 => some (Nown w 112 ((zs 112).map v8)) | 9 => some (Nparts 3 sp) | 10 => some (Nown w q (sp.map v8)) | _ => none) (fun | 9 => [[4, 9], [7, 9], [8, 9]] | 10 => [[9, 10]] | _ => []) (by kernel_rfl) (by kernel_rfl) ?_ ?_
   ·intro i m hm v wa wb hR hv
    split at hm <;> first | cases hm | skip
    all_goals first | exact Hv.row_st hR hv | exact Hv.con_st hR hv | exact Nown_st hR hv | exact Nparts_st hR hv
   ·change Hv.HW _ _ _ _ _ _ _ [0, 1, 2, 3, 4, 5, 6, 7, 8, 9, 10, 11] _ _
    iterate 4 ((first | (refine Hv.pure (v := ?_) (by rfl) (by rfl) (by rfl) (fun wx hS => ?_) ?_; rotate_left; (focus (go_simp; (first | done | with_reducible rfl)))) | refine Hv.pure (v := _) (by rfl) (by rfl) (by rfl) (fun wx hS => Se.xl rfl rfl (by rw [((hs.ext hS).hold (.blk g1 41 PL) (by simp)).cell]; first|exact P8.out|exact P9.out|exact P10.out) (by decide +kernel)) ?_); (try simp only [Act.put, List.setIfInBounds_toArray, List.set_cons_zero, List.set_cons_succ]))
    refine Hv.noise (m := _) (by rfl) (by rfl) (by rfl) (Hv.row_ex _ _) (fun wx hS hf => ?_) (fun v hv => ?_)
    ·unfold Hv.Gives
     go_simp
     exact Hv.row_new wx [v8 0#8, v8 0#8, v8 p.h.al, v8 p.h.dg] 5
    obtain ⟨b0, rfl⟩ := hv
    (try simp only [Act.put, List.setIfInBounds_toArray, List.set_cons_zero, List.set_cons_succ])
    iterate 2 ((first | (refine Hv.pure (v := ?_) (by rfl) (by rfl) (by rfl) (fun wx hS => ?_) ?_; rotate_left; (focus (go_simp; (first | done | with_reducible rfl)))) | refine Hv.pure (v := _) (by rfl) (by rfl) (by rfl) (fun wx hS => Se.xl rfl rfl (by rw [((hs.ext hS).hold (.blk g1 41 PL) (by simp)).cell]; first|exact P8.out|exact P9.out|exact P10.out) (by decide +kernel)) ?_); (try simp only [Act.put, List.setIfInBounds_toArray, List.set_cons_zero, List.set_cons_succ]))
    refine Hv.noise (m := _) (by rfl) (by rfl) (by rfl) (Nown_ex _ _ _) (fun wx hS hf => ?_) (fun v hv => ?_)
    ·refine Se.gcall (f := 41) (args := #[.int .u32 (n32 p.h.mx), .int .i64 4]) ?_ ?_
     ·go_simp
     refine Calls.mono (little_any wx p.h.mx 4 (by omega)) ?_
     rintro e w' ⟨r, B, c, rfl, hn⟩
     exact ⟨_, rfl, Nown_new hS hn⟩
    obtain ⟨A1, c1, rfl⟩ := hv
    (try simp only [Act.put, List.setIfInBounds_toArray, List.set_cons_zero, List.set_cons_succ])
    refine Hv.noise (m := _) (by rfl) (by rfl) (by rfl) (Nown_ex _ _ _) (fun wx hS hf => ?_) (fun v hv => ?_)
    ·exact Nzero hS 112 rfl rfl rfl (by decide)
    obtain ⟨A2, c2, rfl⟩ := hv
    (try simp only [Act.put, List.setIfInBounds_toArray, List.set_cons_zero, List.set_cons_succ])
    refine Hv.noise (m := _) (by rfl) (by rfl) (by rfl) (Nparts_ex _ _) (fun wx hS hf => ?_) (fun v hv => ?_)
    ·have f0 := hf _ (List.mem_cons_of_mem _ (List.mem_cons_of_mem _ (List.mem_cons_self))) ⟨[4, 9], by simp, rfl⟩
     have f1 := hf _ (List.mem_cons_of_mem _ (List.mem_cons_self)) ⟨[7, 9], by simp, rfl⟩
     have f2 := hf _ (List.mem_cons_self) ⟨[8, 9], by simp, rfl⟩
     exact Nparts_bs wx ([⟨some ⟨b0, 0, none⟩, 4, [0#8, 0#8, p.h.al, p.h.dg]⟩, ⟨A1, c1, numL p.h.mx 4⟩, ⟨A2, c2, zs 112⟩]) rfl (by rfl) (by rfl) (by decide) (by decide) (by simp only [List.forall_mem_cons, List.not_mem_nil, false_imp_iff, implies_true, and_true]; exact ⟨row_rd f0, Nown_rd f1, Nown_rd f2⟩) (by rw [flat3]; exact (EQ.out).symm)
    obtain ⟨bb, rfl⟩ := hv
    (try simp only [Act.put, List.setIfInBounds_toArray, List.set_cons_zero, List.set_cons_succ])
    refine Hv.noise (m := _) (by rfl) (by rfl) (by rfl) (Nown_ex _ _ _) (fun wx hS hf => ?_) (fun v hv => ?_)
    ·have fb := hf _ (List.mem_cons_self) ⟨[9, 10], by simp, rfl⟩
     refine Se.gcall (f := 40) (args := #[.slice (some ⟨bb, 0, none⟩) 3 3]) ?_ ?_
     ·go_simp
     refine Calls.mono (join_np wx fb HQ.out (by rw [HQ.out, EQ.out]; simp [numL_length]) (by omega)) ?_
     rintro e w' ⟨r, B, c, rfl, hn⟩
     exact ⟨_, rfl, Nown_new hS hn⟩
    obtain ⟨A, c, rfl⟩ := hv
    (try simp only [Act.put, List.setIfInBounds_toArray, List.set_cons_zero, List.set_cons_succ])
    iterate 1 ((first | (refine Hv.pure (v := ?_) (by rfl) (by rfl) (by rfl) (fun wx hS => ?_) ?_; rotate_left; (focus (go_simp; (first | done | with_reducible rfl))))); (try simp only [Act.put, List.setIfInBounds_toArray, List.set_cons_zero, List.set_cons_succ]))
    refine Hv.done (fun wx hS hf => ?_)
    obtain ⟨rr, kk⟩ := hf _ (List.mem_cons_self) _ _ rfl
    replace hs := hs.join kk (by simp [At.noRd])
    clear kk hf hS
    simp only [List.cons_append, List.nil_append] at hs
    simp only [List.drop_succ_cons, List.drop_nil, List.drop_zero]
    go_wp2_with fail
    go_ret
    exact ⟨A, c, rfl, Se.Ow.rd (hs.hold _ List.mem_cons_self), HW.out _ hs.below⟩
 ·have EQ := Lib.hid (H2.out h23)
  clear H0 HL H2 H9 H6
  rcases h23 with rfl | rfl
  all_goals
   go_enter Try.func42, Try.ntmps42
   go_upto_region 7 with (first | ((with_reducible refine Se.isL (o := ⟨some 4, _, _, _, _, _⟩) ?_); (refine Se.toL rfl (Se.ld (o := ⟨some 4, _, _, _, _, _⟩) hs rfl rfl (Cell.blk 0 rfl P0.out) (by kernel_rfl) ?_))) | ((first | with_reducible refine Se.ab hs ?_ | with_reducible refine Se.abc hs ?_); clear hs; (first | (generalize w.heap.size = g1; intro w hs))))
   refine Hv.grow 11 (fun | 3 => some (Nown w 2 ((numL (p.h.st.setWidth 32) 2).map v8)) | 6 => some (Nown w 4 ((numL p.h.nf 4).map v8)) | 7 => some (Nown w 10 ((zs 10).map v8)) | 8 => some (Nparts 3 sp) | 9 => some (Nown w q (sp.map v8)) | _ => none) (fun | 8 => [[3, 8], [6, 8], [7, 8]] | 9 => [[8, 9]] | _ => []) (by kernel_rfl) (by kernel_rfl) ?_ ?_
   ·intro i m hm v wa wb hR hv
    split at hm <;> first | cases hm | skip
    all_goals first | exact Hv.row_st hR hv | exact Hv.con_st hR hv | exact Nown_st hR hv | exact Nparts_st hR hv
   ·change Hv.HW _ _ _ _ _ _ _ [0, 1, 2, 3, 4, 5, 6, 7, 8, 9, 10] _ _
    iterate 3 ((first | (refine Hv.pure (v := ?_) (by rfl) (by rfl) (by rfl) (fun wx hS => ?_) ?_; rotate_left; (focus (go_simp; (first | done | with_reducible rfl)))) | refine Hv.pure (v := _) (by rfl) (by rfl) (by rfl) (fun wx hS => Se.xl rfl rfl (by rw [((hs.ext hS).hold (.blk g1 41 PL) (by simp)).cell]; first|exact P11.out|exact P12.out) (by decide +kernel)) ?_); (try simp only [Act.put, List.setIfInBounds_toArray, List.set_cons_zero, List.set_cons_succ]))
    refine Hv.noise (m := _) (by rfl) (by rfl) (by rfl) (Nown_ex _ _ _) (fun wx hS hf => ?_) (fun v hv => ?_)
    ·refine Se.gcall (f := 41) (args := #[.int .u32 (n32 (p.h.st.setWidth 32)), .int .i64 2]) ?_ ?_
     ·go_simp
     refine Calls.mono (little_any wx (p.h.st.setWidth 32) 2 (by omega)) ?_
     rintro e w' ⟨r, B, c, rfl, hn⟩
     exact ⟨_, rfl, Nown_new hS hn⟩
    obtain ⟨A0, c0, rfl⟩ := hv
    (try simp only [Act.put, List.setIfInBounds_toArray, List.set_cons_zero, List.set_cons_succ])
    iterate 2 ((first | (refine Hv.pure (v := ?_) (by rfl) (by rfl) (by rfl) (fun wx hS => ?_) ?_; rotate_left; (focus (go_simp; (first | done | with_reducible rfl)))) | refine Hv.pure (v := _) (by rfl) (by rfl) (by rfl) (fun wx hS => Se.xl rfl rfl (by rw [((hs.ext hS).hold (.blk g1 41 PL) (by simp)).cell]; first|exact P11.out|exact P12.out) (by decide +kernel)) ?_); (try simp only [Act.put, List.setIfInBounds_toArray, List.set_cons_zero, List.set_cons_succ]))
    refine Hv.noise (m := _) (by rfl) (by rfl) (by rfl) (Nown_ex _ _ _) (fun wx hS hf => ?_) (fun v hv => ?_)
    ·refine Se.gcall (f := 41) (args := #[.int .u32 (n32 p.h.nf), .int .i64 4]) ?_ ?_
     ·go_simp
     refine Calls.mono (little_any wx p.h.nf 4 (by omega)) ?_
     rintro e w' ⟨r, B, c, rfl, hn⟩
     exact ⟨_, rfl, Nown_new hS hn⟩
    obtain ⟨A1, c1, rfl⟩ := hv
    (try simp only [Act.put, List.setIfInBounds_toArray, List.set_cons_zero, List.set_cons_succ])
    refine Hv.noise (m := _) (by rfl) (by rfl) (by rfl) (Nown_ex _ _ _) (fun wx hS hf => ?_) (fun v hv => ?_)
    ·exact Nzero hS 10 rfl rfl rfl (by decide)
    obtain ⟨A2, c2, rfl⟩ := hv
    (try simp only [Act.put, List.setIfInBounds_toArray, List.set_cons_zero, List.set_cons_succ])
    refine Hv.noise (m := _) (by rfl) (by rfl) (by rfl) (Nparts_ex _ _) (fun wx hS hf => ?_) (fun v hv => ?_)
    ·have f0 := hf _ (List.mem_cons_of_mem _ (List.mem_cons_of_mem _ (List.mem_cons_self))) ⟨[3, 8], by simp, rfl⟩
     have f1 := hf _ (List.mem_cons_of_mem _ (List.mem_cons_self)) ⟨[6, 8], by simp, rfl⟩
     have f2 := hf _ (List.mem_cons_self) ⟨[7, 8], by simp, rfl⟩
     exact Nparts_bs wx ([⟨A0, c0, numL (p.h.st.setWidth 32) 2⟩, ⟨A1, c1, numL p.h.nf 4⟩, ⟨A2, c2, zs 10⟩]) rfl (by rfl) (by rfl) (by decide) (by decide) (by simp only [List.forall_mem_cons, List.not_mem_nil, false_imp_iff, implies_true, and_true]; exact ⟨Nown_rd f0, Nown_rd f1, Nown_rd f2⟩) (by rw [flat3]; exact (EQ.out).symm)
    obtain ⟨bb, rfl⟩ := hv
    (try simp only [Act.put, List.setIfInBounds_toArray, List.set_cons_zero, List.set_cons_succ])
    refine Hv.noise (m := _) (by rfl) (by rfl) (by rfl) (Nown_ex _ _ _) (fun wx hS hf => ?_) (fun v hv => ?_)
    ·have fb := hf _ (List.mem_cons_self) ⟨[8, 9], by simp, rfl⟩
     refine Se.gcall (f := 40) (args := #[.slice (some ⟨bb, 0, none⟩) 3 3]) ?_ ?_
     ·go_simp
     refine Calls.mono (join_np wx fb HQ.out (by rw [HQ.out, EQ.out]; simp [numL_length]) (by omega)) ?_
     rintro e w' ⟨r, B, c, rfl, hn⟩
     exact ⟨_, rfl, Nown_new hS hn⟩
    obtain ⟨A, c, rfl⟩ := hv
    (try simp only [Act.put, List.setIfInBounds_toArray, List.set_cons_zero, List.set_cons_succ])
    iterate 1 ((first | (refine Hv.pure (v := ?_) (by rfl) (by rfl) (by rfl) (fun wx hS => ?_) ?_; rotate_left; (focus (go_simp; (first | done | with_reducible rfl))))); (try simp only [Act.put, List.setIfInBounds_toArray, List.set_cons_zero, List.set_cons_succ]))
    refine Hv.done (fun wx hS hf => ?_)
    obtain ⟨rr, kk⟩ := hf _ (List.mem_cons_self) _ _ rfl
    replace hs := hs.join kk (by simp [At.noRd])
    clear kk hf hS
    simp only [List.cons_append, List.nil_append] at hs
    simp only [List.drop_succ_cons, List.drop_nil, List.drop_zero]
    go_wp2_with fail
    go_ret
    exact ⟨A, c, rfl, Se.Ow.rd (hs.hold _ List.mem_cons_self), HW.out _ hs.below⟩
 ·have EQ := Lib.hid (HL.out h45)
  clear H0 HL H2 H9 H6
  rcases h45 with rfl | rfl
  all_goals
   go_enter Try.func42, Try.ntmps42
   go_wp2_with (first | ((with_reducible refine Se.isL (o := ⟨some 4, _, _, _, _, _⟩) ?_); (refine Se.toL rfl (Se.ld (o := ⟨some 4, _, _, _, _, _⟩) hs rfl rfl (Cell.blk 0 rfl P0.out) (by kernel_rfl) ?_))) | ((with_reducible refine Se.isL (o := ⟨some 37, _, _, _, _, _⟩) ?_); (refine Se.toL rfl (Se.ld (o := ⟨some 37, _, _, _, _, _⟩) hs rfl rfl (Cell.blk 0 rfl P3.out) (by kernel_rfl) ?_))) | ((first | with_reducible refine Se.ab hs ?_ | with_reducible refine Se.abc hs ?_); clear hs; (first | (generalize w.heap.size = g1; intro w hs))))
   go_ret
   refine ⟨EA, ec, by rw [HQ.out, ← EQ.out, HEN.out]; rfl, ?_, HW.out _ hs.below⟩
   rw [← EQ.out]
   exact HE.out _ hs.drop.hold
 ·have EQ := Lib.hid (H9.out h9)
  clear H0 HL H2 H9 H6
  subst h9
  go_enter Try.func42, Try.ntmps42
  go_upto_region 12 with (first | ((with_reducible refine Se.isL (o := ⟨some 4, _, _, _, _, _⟩) ?_); (refine Se.toL rfl (Se.ld (o := ⟨some 4, _, _, _, _, _⟩) hs rfl rfl (Cell.blk 0 rfl P0.out) (by kernel_rfl) ?_))) | ((first | with_reducible refine Se.ab hs ?_ | with_reducible refine Se.abc hs ?_); clear hs; (first | (generalize w.heap.size = g1; intro w hs))))
  refine Hv.grow 18 (fun | 3 => some (Nown w 2 ((numL (p.h.id.setWidth 32) 2).map v8)) | 7 => some (Nown w 2 ((numL (p.h.tg.setWidth 32) 2).map v8)) | 10 => some (Nown w 4 ((numL p.h.of 4).map v8)) | 13 => some (Nown w 4 ((numL p.h.ln 4).map v8)) | 14 => some (Nown w 4 ((zs 4).map v8)) | 15 => some (Nparts 5 sp) | 16 => some (Nown w q (sp.map v8)) | _ => none) (fun | 15 => [[3, 15], [7, 15], [10, 15], [13, 15], [14, 15]] | 16 => [[15, 16]] | _ => []) (by kernel_rfl) (by kernel_rfl) ?_ ?_
  ·intro i m hm v wa wb hR hv
   split at hm <;> first | cases hm | skip
   all_goals first | exact Hv.row_st hR hv | exact Hv.con_st hR hv | exact Nown_st hR hv | exact Nparts_st hR hv
  ·change Hv.HW _ _ _ _ _ _ _ [0, 1, 2, 3, 4, 5, 6, 7, 8, 9, 10, 11, 12, 13, 14, 15, 16, 17] _ _
   iterate 3 ((first | (refine Hv.pure (v := ?_) (by rfl) (by rfl) (by rfl) (fun wx hS => ?_) ?_; rotate_left; (focus (go_simp; (first | done | with_reducible rfl)))) | refine Hv.pure (v := _) (by rfl) (by rfl) (by rfl) (fun wx hS => Se.xl rfl rfl (by rw [((hs.ext hS).hold (.blk g1 41 PL) (by simp)).cell]; first|exact P4.out|exact P5.out|exact P6.out|exact P7.out) (by decide +kernel)) ?_); (try simp only [Act.put, List.setIfInBounds_toArray, List.set_cons_zero, List.set_cons_succ]))
   refine Hv.noise (m := _) (by rfl) (by rfl) (by rfl) (Nown_ex _ _ _) (fun wx hS hf => ?_) (fun v hv => ?_)
   ·refine Se.gcall (f := 41) (args := #[.int .u32 (n32 (p.h.id.setWidth 32)), .int .i64 2]) ?_ ?_
    ·go_simp
    refine Calls.mono (little_any wx (p.h.id.setWidth 32) 2 (by omega)) ?_
    rintro e w' ⟨r, B, c, rfl, hn⟩
    exact ⟨_, rfl, Nown_new hS hn⟩
   obtain ⟨A0, c0, rfl⟩ := hv
   (try simp only [Act.put, List.setIfInBounds_toArray, List.set_cons_zero, List.set_cons_succ])
   iterate 3 ((first | (refine Hv.pure (v := ?_) (by rfl) (by rfl) (by rfl) (fun wx hS => ?_) ?_; rotate_left; (focus (go_simp; (first | done | with_reducible rfl)))) | refine Hv.pure (v := _) (by rfl) (by rfl) (by rfl) (fun wx hS => Se.xl rfl rfl (by rw [((hs.ext hS).hold (.blk g1 41 PL) (by simp)).cell]; first|exact P4.out|exact P5.out|exact P6.out|exact P7.out) (by decide +kernel)) ?_); (try simp only [Act.put, List.setIfInBounds_toArray, List.set_cons_zero, List.set_cons_succ]))
   refine Hv.noise (m := _) (by rfl) (by rfl) (by rfl) (Nown_ex _ _ _) (fun wx hS hf => ?_) (fun v hv => ?_)
   ·refine Se.gcall (f := 41) (args := #[.int .u32 (n32 (p.h.tg.setWidth 32)), .int .i64 2]) ?_ ?_
    ·go_simp
    refine Calls.mono (little_any wx (p.h.tg.setWidth 32) 2 (by omega)) ?_
    rintro e w' ⟨r, B, c, rfl, hn⟩
    exact ⟨_, rfl, Nown_new hS hn⟩
   obtain ⟨A1, c1, rfl⟩ := hv
   (try simp only [Act.put, List.setIfInBounds_toArray, List.set_cons_zero, List.set_cons_succ])
   iterate 2 ((first | (refine Hv.pure (v := ?_) (by rfl) (by rfl) (by rfl) (fun wx hS => ?_) ?_; rotate_left; (focus (go_simp; (first | done | with_reducible rfl)))) | refine Hv.pure (v := _) (by rfl) (by rfl) (by rfl) (fun wx hS => Se.xl rfl rfl (by rw [((hs.ext hS).hold (.blk g1 41 PL) (by simp)).cell]; first|exact P4.out|exact P5.out|exact P6.out|exact P7.out) (by decide +kernel)) ?_); (try simp only [Act.put, List.setIfInBounds_toArray, List.set_cons_zero, List.set_cons_succ]))
   refine Hv.noise (m := _) (by rfl) (by rfl) (by rfl) (Nown_ex _ _ _) (fun wx hS hf => ?_) (fun v hv => ?_)
   ·refine Se.gcall (f := 41) (args := #[.int .u32 (n32 p.h.of), .int .i64 4]) ?_ ?_
    ·go_simp
    refine Calls.mono (little_any wx p.h.of 4 (by omega)) ?_
    rintro e w' ⟨r, B, c, rfl, hn⟩
    exact ⟨_, rfl, Nown_new hS hn⟩
   obtain ⟨A2, c2, rfl⟩ := hv
   (try simp only [Act.put, List.setIfInBounds_toArray, List.set_cons_zero, List.set_cons_succ])
   iterate 2 ((first | (refine Hv.pure (v := ?_) (by rfl) (by rfl) (by rfl) (fun wx hS => ?_) ?_; rotate_left; (focus (go_simp; (first | done | with_reducible rfl)))) | refine Hv.pure (v := _) (by rfl) (by rfl) (by rfl) (fun wx hS => Se.xl rfl rfl (by rw [((hs.ext hS).hold (.blk g1 41 PL) (by simp)).cell]; first|exact P4.out|exact P5.out|exact P6.out|exact P7.out) (by decide +kernel)) ?_); (try simp only [Act.put, List.setIfInBounds_toArray, List.set_cons_zero, List.set_cons_succ]))
   refine Hv.noise (m := _) (by rfl) (by rfl) (by rfl) (Nown_ex _ _ _) (fun wx hS hf => ?_) (fun v hv => ?_)
   ·refine Se.gcall (f := 41) (args := #[.int .u32 (n32 p.h.ln), .int .i64 4]) ?_ ?_
    ·go_simp
    refine Calls.mono (little_any wx p.h.ln 4 (by omega)) ?_
    rintro e w' ⟨r, B, c, rfl, hn⟩
    exact ⟨_, rfl, Nown_new hS hn⟩
   obtain ⟨A3, c3, rfl⟩ := hv
   (try simp only [Act.put, List.setIfInBounds_toArray, List.set_cons_zero, List.set_cons_succ])
   refine Hv.noise (m := _) (by rfl) (by rfl) (by rfl) (Nown_ex _ _ _) (fun wx hS hf => ?_) (fun v hv => ?_)
   ·exact Nzero hS 4 rfl rfl rfl (by decide)
   obtain ⟨A4, c4, rfl⟩ := hv
   (try simp only [Act.put, List.setIfInBounds_toArray, List.set_cons_zero, List.set_cons_succ])
   refine Hv.noise (m := _) (by rfl) (by rfl) (by rfl) (Nparts_ex _ _) (fun wx hS hf => ?_) (fun v hv => ?_)
   ·have f0 := hf _ (List.mem_cons_of_mem _ (List.mem_cons_of_mem _ (List.mem_cons_of_mem _ (List.mem_cons_of_mem _ (List.mem_cons_self))))) ⟨[3, 15], by simp, rfl⟩
    have f1 := hf _ (List.mem_cons_of_mem _ (List.mem_cons_of_mem _ (List.mem_cons_of_mem _ (List.mem_cons_self)))) ⟨[7, 15], by simp, rfl⟩
    have f2 := hf _ (List.mem_cons_of_mem _ (List.mem_cons_of_mem _ (List.mem_cons_self))) ⟨[10, 15], by simp, rfl⟩
    have f3 := hf _ (List.mem_cons_of_mem _ (List.mem_cons_self)) ⟨[13, 15], by simp, rfl⟩
    have f4 := hf _ (List.mem_cons_self) ⟨[14, 15], by simp, rfl⟩
    exact Nparts_bs wx ([⟨A0, c0, numL (p.h.id.setWidth 32) 2⟩, ⟨A1, c1, numL (p.h.tg.setWidth 32) 2⟩, ⟨A2, c2, numL p.h.of 4⟩, ⟨A3, c3, numL p.h.ln 4⟩, ⟨A4, c4, zs 4⟩]) rfl (by rfl) (by rfl) (by decide) (by decide) (by simp only [List.forall_mem_cons, List.not_mem_nil, false_imp_iff, implies_true, and_true]; exact ⟨Nown_rd f0, Nown_rd f1, Nown_rd f2, Nown_rd f3, Nown_rd f4⟩) (by rw [flat5]; exact (EQ.out).symm)
   obtain ⟨bb, rfl⟩ := hv
   (try simp only [Act.put, List.setIfInBounds_toArray, List.set_cons_zero, List.set_cons_succ])
   refine Hv.noise (m := _) (by rfl) (by rfl) (by rfl) (Nown_ex _ _ _) (fun wx hS hf => ?_) (fun v hv => ?_)
   ·have fb := hf _ (List.mem_cons_self) ⟨[15, 16], by simp, rfl⟩
    refine Se.gcall (f := 40) (args := #[.slice (some ⟨bb, 0, none⟩) 5 5]) ?_ ?_
    ·go_simp
    refine Calls.mono (join_np wx fb HQ.out (by rw [HQ.out, EQ.out]; simp [numL_length]) (by omega)) ?_
    rintro e w' ⟨r, B, c, rfl, hn⟩
    exact ⟨_, rfl, Nown_new hS hn⟩
   obtain ⟨A, c, rfl⟩ := hv
   (try simp only [Act.put, List.setIfInBounds_toArray, List.set_cons_zero, List.set_cons_succ])
   iterate 1 ((first | (refine Hv.pure (v := ?_) (by rfl) (by rfl) (by rfl) (fun wx hS => ?_) ?_; rotate_left; (focus (go_simp; (first | done | with_reducible rfl))))); (try simp only [Act.put, List.setIfInBounds_toArray, List.set_cons_zero, List.set_cons_succ]))
   refine Hv.done (fun wx hS hf => ?_)
   obtain ⟨rr, kk⟩ := hf _ (List.mem_cons_self) _ _ rfl
   replace hs := hs.join kk (by simp [At.noRd])
   clear kk hf hS
   simp only [List.cons_append, List.nil_append] at hs
   simp only [List.drop_succ_cons, List.drop_nil, List.drop_zero]
   go_wp2_with fail
   go_ret
   exact ⟨A, c, rfl, Se.Ow.rd (hs.hold _ List.mem_cons_self), HW.out _ hs.below⟩
 ·have EQ := Lib.hid (H6.out h67)
  clear H0 HL H2 H9 H6
  rcases h67 with rfl | rfl
  all_goals
   go_enter Try.func42, Try.ntmps42
   go_upto_region 13 with (first | ((with_reducible refine Se.isL (o := ⟨some 4, _, _, _, _, _⟩) ?_); (refine Se.toL rfl (Se.ld (o := ⟨some 4, _, _, _, _, _⟩) hs rfl rfl (Cell.blk 0 rfl P0.out) (by kernel_rfl) ?_))) | ((first | with_reducible refine Se.ab hs ?_ | with_reducible refine Se.abc hs ?_); clear hs; (first | (generalize w.heap.size = g1; intro w hs))))
   refine Hv.grow 20 (fun | 3 => some (Nown w 2 ((numL (p.h.id.setWidth 32) 2).map v8)) | 7 => some (Nown w 2 ((numL (p.h.tg.setWidth 32) 2).map v8)) | 10 => some (Nown w 4 ((numL p.h.of 4).map v8)) | 15 => some (Nown w 4 ((numL (BitVec.ofNat 32 dn) 4).map v8)) | 16 => some (Nown w 4 ((zs 4).map v8)) | 17 => some (Nparts 5 sp) | 18 => some (Nown w q (sp.map v8)) | _ => none) (fun | 17 => [[3, 17], [7, 17], [10, 17], [15, 17], [16, 17]] | 18 => [[17, 18]] | _ => []) (by kernel_rfl) (by kernel_rfl) ?_ ?_
   ·intro i m hm v wa wb hR hv
    split at hm <;> first | cases hm | skip
    all_goals first | exact Hv.row_st hR hv | exact Hv.con_st hR hv | exact Nown_st hR hv | exact Nparts_st hR hv
   ·change Hv.HW _ _ _ _ _ _ _ [0, 1, 2, 3, 4, 5, 6, 7, 8, 9, 10, 11, 12, 13, 14, 15, 16, 17, 18, 19] _ _
    iterate 3 ((first | (refine Hv.pure (v := ?_) (by rfl) (by rfl) (by rfl) (fun wx hS => ?_) ?_; rotate_left; (focus (go_simp; (first | done | with_reducible rfl)))) | refine Hv.pure (v := _) (by rfl) (by rfl) (by rfl) (fun wx hS => Se.xl rfl rfl (by rw [((hs.ext hS).hold (.blk g1 41 PL) (by simp)).cell]; first|exact P4.out|exact P5.out|exact P6.out|exact P13.out) (by decide +kernel)) ?_); (try simp only [Act.put, List.setIfInBounds_toArray, List.set_cons_zero, List.set_cons_succ]))
    refine Hv.noise (m := _) (by rfl) (by rfl) (by rfl) (Nown_ex _ _ _) (fun wx hS hf => ?_) (fun v hv => ?_)
    ·refine Se.gcall (f := 41) (args := #[.int .u32 (n32 (p.h.id.setWidth 32)), .int .i64 2]) ?_ ?_
     ·go_simp
     refine Calls.mono (little_any wx (p.h.id.setWidth 32) 2 (by omega)) ?_
     rintro e w' ⟨r, B, c, rfl, hn⟩
     exact ⟨_, rfl, Nown_new hS hn⟩
    obtain ⟨A0, c0, rfl⟩ := hv
    (try simp only [Act.put, List.setIfInBounds_toArray, List.set_cons_zero, List.set_cons_succ])
    iterate 3 ((first | (refine Hv.pure (v := ?_) (by rfl) (by rfl) (by rfl) (fun wx hS => ?_) ?_; rotate_left; (focus (go_simp; (first | done | with_reducible rfl)))) | refine Hv.pure (v := _) (by rfl) (by rfl) (by rfl) (fun wx hS => Se.xl rfl rfl (by rw [((hs.ext hS).hold (.blk g1 41 PL) (by simp)).cell]; first|exact P4.out|exact P5.out|exact P6.out|exact P13.out) (by decide +kernel)) ?_); (try simp only [Act.put, List.setIfInBounds_toArray, List.set_cons_zero, List.set_cons_succ]))
    refine Hv.noise (m := _) (by rfl) (by rfl) (by rfl) (Nown_ex _ _ _) (fun wx hS hf => ?_) (fun v hv => ?_)
    ·refine Se.gcall (f := 41) (args := #[.int .u32 (n32 (p.h.tg.setWidth 32)), .int .i64 2]) ?_ ?_
     ·go_simp
     refine Calls.mono (little_any wx (p.h.tg.setWidth 32) 2 (by omega)) ?_
     rintro e w' ⟨r, B, c, rfl, hn⟩
     exact ⟨_, rfl, Nown_new hS hn⟩
    obtain ⟨A1, c1, rfl⟩ := hv
    (try simp only [Act.put, List.setIfInBounds_toArray, List.set_cons_zero, List.set_cons_succ])
    iterate 2 ((first | (refine Hv.pure (v := ?_) (by rfl) (by rfl) (by rfl) (fun wx hS => ?_) ?_; rotate_left; (focus (go_simp; (first | done | with_reducible rfl)))) | refine Hv.pure (v := _) (by rfl) (by rfl) (by rfl) (fun wx hS => Se.xl rfl rfl (by rw [((hs.ext hS).hold (.blk g1 41 PL) (by simp)).cell]; first|exact P4.out|exact P5.out|exact P6.out|exact P13.out) (by decide +kernel)) ?_); (try simp only [Act.put, List.setIfInBounds_toArray, List.set_cons_zero, List.set_cons_succ]))
    refine Hv.noise (m := _) (by rfl) (by rfl) (by rfl) (Nown_ex _ _ _) (fun wx hS hf => ?_) (fun v hv => ?_)
    ·refine Se.gcall (f := 41) (args := #[.int .u32 (n32 p.h.of), .int .i64 4]) ?_ ?_
     ·go_simp
     refine Calls.mono (little_any wx p.h.of 4 (by omega)) ?_
     rintro e w' ⟨r, B, c, rfl, hn⟩
     exact ⟨_, rfl, Nown_new hS hn⟩
    obtain ⟨A2, c2, rfl⟩ := hv
    (try simp only [Act.put, List.setIfInBounds_toArray, List.set_cons_zero, List.set_cons_succ])
    iterate 4 ((first | (refine Hv.pure (v := ?_) (by rfl) (by rfl) (by rfl) (fun wx hS => ?_) ?_; rotate_left; (focus (go_simp; (first | done | with_reducible rfl)))) | refine Hv.pure (v := _) (by rfl) (by rfl) (by rfl) (fun wx hS => Se.xl rfl rfl (by rw [((hs.ext hS).hold (.blk g1 41 PL) (by simp)).cell]; first|exact P4.out|exact P5.out|exact P6.out|exact P13.out) (by decide +kernel)) ?_); (try simp only [Act.put, List.setIfInBounds_toArray, List.set_cons_zero, List.set_cons_succ]))
    refine Hv.noise (m := _) (by rfl) (by rfl) (by rfl) (Nown_ex _ _ _) (fun wx hS hf => ?_) (fun v hv => ?_)
    ·refine Se.gcall (f := 41) (args := #[.int .u32 (n32 (BitVec.ofNat 32 dn)), .int .i64 4]) ?_ ?_
     ·go_simp
     refine Calls.mono (little_any wx (BitVec.ofNat 32 dn) 4 (by omega)) ?_
     rintro e w' ⟨r, B, c, rfl, hn⟩
     exact ⟨_, rfl, Nown_new hS hn⟩
    obtain ⟨A3, c3, rfl⟩ := hv
    (try simp only [Act.put, List.setIfInBounds_toArray, List.set_cons_zero, List.set_cons_succ])
    refine Hv.noise (m := _) (by rfl) (by rfl) (by rfl) (Nown_ex _ _ _) (fun wx hS hf => ?_) (fun v hv => ?_)
    ·exact Nzero hS 4 rfl rfl rfl (by decide)
    obtain ⟨A4, c4, rfl⟩ := hv
    (try simp only [Act.put, List.setIfInBounds_toArray, List.set_cons_zero, List.set_cons_succ])
    refine Hv.noise (m := _) (by rfl) (by rfl) (by rfl) (Nparts_ex _ _) (fun wx hS hf => ?_) (fun v hv => ?_)
    ·have f0 := hf _ (List.mem_cons_of_mem _ (List.mem_cons_of_mem _ (List.mem_cons_of_mem _ (List.mem_cons_of_mem _ (List.mem_cons_self))))) ⟨[3, 17], by simp, rfl⟩
     have f1 := hf _ (List.mem_cons_of_mem _ (List.mem_cons_of_mem _ (List.mem_cons_of_mem _ (List.mem_cons_self)))) ⟨[7, 17], by simp, rfl⟩
     have f2 := hf _ (List.mem_cons_of_mem _ (List.mem_cons_of_mem _ (List.mem_cons_self))) ⟨[10, 17], by simp, rfl⟩
     have f3 := hf _ (List.mem_cons_of_mem _ (List.mem_cons_self)) ⟨[15, 17], by simp, rfl⟩
     have f4 := hf _ (List.mem_cons_self) ⟨[16, 17], by simp, rfl⟩
     exact Nparts_bs wx ([⟨A0, c0, numL (p.h.id.setWidth 32) 2⟩, ⟨A1, c1, numL (p.h.tg.setWidth 32) 2⟩, ⟨A2, c2, numL p.h.of 4⟩, ⟨A3, c3, numL (BitVec.ofNat 32 dn) 4⟩, ⟨A4, c4, zs 4⟩]) rfl (by rfl) (by rfl) (by decide) (by decide) (by simp only [List.forall_mem_cons, List.not_mem_nil, false_imp_iff, implies_true, and_true]; exact ⟨Nown_rd f0, Nown_rd f1, Nown_rd f2, Nown_rd f3, Nown_rd f4⟩) (by rw [flat5]; exact (EQ.out).symm)
    obtain ⟨bb, rfl⟩ := hv
    (try simp only [Act.put, List.setIfInBounds_toArray, List.set_cons_zero, List.set_cons_succ])
    refine Hv.noise (m := _) (by rfl) (by rfl) (by rfl) (Nown_ex _ _ _) (fun wx hS hf => ?_) (fun v hv => ?_)
    ·have fb := hf _ (List.mem_cons_self) ⟨[17, 18], by simp, rfl⟩
     refine Se.gcall (f := 40) (args := #[.slice (some ⟨bb, 0, none⟩) 5 5]) ?_ ?_
     ·go_simp
     refine Calls.mono (join_np wx fb HQ.out (by rw [HQ.out, EQ.out]; simp [numL_length]) (by omega)) ?_
     rintro e w' ⟨r, B, c, rfl, hn⟩
     exact ⟨_, rfl, Nown_new hS hn⟩
    obtain ⟨A, c, rfl⟩ := hv
    (try simp only [Act.put, List.setIfInBounds_toArray, List.set_cons_zero, List.set_cons_succ])
    iterate 1 ((first | (refine Hv.pure (v := ?_) (by rfl) (by rfl) (by rfl) (fun wx hS => ?_) ?_; rotate_left; (focus (go_simp; (first | done | with_reducible rfl))))); (try simp only [Act.put, List.setIfInBounds_toArray, List.set_cons_zero, List.set_cons_succ]))
    refine Hv.done (fun wx hS hf => ?_)
    obtain ⟨rr, kk⟩ := hf _ (List.mem_cons_self) _ _ rfl
    replace hs := hs.join kk (by simp [At.noRd])
    clear kk hf hS
    simp only [List.cons_append, List.nil_append] at hs
    simp only [List.drop_succ_cons, List.drop_nil, List.drop_zero]
    go_wp2_with fail
    go_ret
    exact ⟨A, c, rfl, Se.Ow.rd (hs.hold _ List.mem_cons_self), HW.out _ hs.below⟩
end
end Pd
end Go.Proofs.Ytdngfcmakjlamaa


/- Layer 35: the writers of the specific headers. No condition. -/
import Derived.Test.YtdngfcmakjlamaaPduHv
set_option linter.unusedSimpArgs false
set_option linter.unusedVariables false
namespace Go.Proofs.Ytdngfcmakjlamaa
open Go Go.RowKit
namespace Pd
open Se (St At Reads Cell)
open Li (v8 v8_one Rd Blk Fr)
open Bv (n8 n16 n32 n64)
variable {w0 w : World} {X : List Nat} {L : List At} {h : Hd} {EA DA : Option Addr} {en ec dn dc : Nat}
attribute [local irreducible] Calls
theorem flat3 (a b c : Pt) : flat [a, b, c] = a.bs ++ b.bs ++ c.bs := by simp [flat]
theorem flat2 (a b : Pt) : flat [a, b] = a.bs ++ b.bs := by simp [flat]
theorem flat4 (a b c d : Pt) : flat [a, b, c, d] = a.bs ++ b.bs ++ c.bs ++ d.bs := by simp [flat]
def wInit (h : Hd) : List (BitVec 8) := [0#8, 0#8] ++ [h.al, h.dg] ++ numL h.mx 4
def wEnd (h : Hd) : List (BitVec 8) := numL (h.st.setWidth 32) 2 ++ numL h.nf 4
def wData (h : Hd) (n : Nat) : List (BitVec 8) := numL (h.id.setWidth 32) 2 ++ numL (h.tg.setWidth 32) 2 ++ numL h.of 4 ++ numL (BitVec.ofNat 32 n) 4
def wReady (h : Hd) : List (BitVec 8) := numL (h.id.setWidth 32) 2 ++ numL (h.tg.setWidth 32) 2 ++ numL h.of 4 ++ numL h.ln 4
set_option maxRecDepth 100000 in
set_option maxHeartbeats 4000000 in
theorem writeInit_st (hs : St w0 X L w) : Calls Try.prog 76 #[.agg (pc h EA en ec DA dn dc).toArray] w fun e w' => ∃ r B c, e = .returned (.slice B 120 c) ∧ St w0 X (.own 1 r B 120 c ((wInit h ++ zs 112).map v8) :: L) w' := by
 have F := Lib.hid (fun (a b c : Pt) (h1 : a.bs = [0#8, 0#8]) (h2 : b.bs = [h.al, h.dg]) (h3 : c.bs = numL h.mx 4) => show flat [a, b, c] = wInit h by rw [flat3, h1, h2, h3]; rfl)
 have Y := Lib.hid (show wInit h ++ zs (120 - (wInit h).length) = wInit h ++ zs 112 by simp [wInit, numL_length])
 have YL := Lib.hid (show (wInit h).length ≤ 120 by simp [wInit, numL_length])
 unfold pc
 go_enter Try.func76, Try.ntmps76
 go_upto_region 1 with (first | ((first | with_reducible refine Se.ab hs ?_ | with_reducible refine Se.abc hs ?_); clear hs; (first | (generalize w.heap.size = g1; intro w hs))))
 refine Hv.grow 12 (fun | 0 => some (Nown w 2 ((numL 0#32 2).map v8)) | 5 => some (Hv.row [v8 h.al, v8 h.dg] 5) | 8 => some (Nown w 4 ((numL h.mx 4).map v8)) | 9 => some (Nparts 3 (wInit h)) | 10 => some (Nown w 120 ((wInit h ++ zs 112).map v8)) | _ => none) (fun | 9 => [[0, 9], [5, 9], [8, 9]] | 10 => [[9, 10]] | _ => []) (by kernel_rfl) (by kernel_rfl) ?_ ?_
 ·intro i m hm v wa wb hR hv
  split at hm <;> first | cases hm | skip
  all_goals first | exact Hv.row_st hR hv | exact Hv.con_st hR hv | exact Nown_st hR hv | exact Nparts_st hR hv
 ·change Hv.HW _ _ _ _ _ _ _ [0, 1, 2, 3, 4, 5, 6, 7, 8, 9, 10, 11] _ _
  refine Hv.noise (m := _) (by rfl) (by rfl) (by rfl) (Nown_ex _ _ _) (fun wx hS hf => ?_) (fun v hv => ?_)
  ·refine Se.gcall (f := 56) (args := #[.int .u32 0, .int .i64 2]) ?_ ?_
   ·go_simp
   refine Calls.mono (number_any wx 0#32 2 (by omega)) ?_
   rintro e w' ⟨r, B, c, rfl, hn⟩
   exact ⟨_, rfl, Nown_new hS hn⟩
  obtain ⟨A0, c0, rfl⟩ := hv
  (try simp only [Act.put, List.setIfInBounds_toArray, List.set_cons_zero, List.set_cons_succ])
  iterate 4 ((first | (refine Hv.pure (v := ?_) (by rfl) (by rfl) (by rfl) (fun wx hS => ?_) ?_; rotate_left; (focus (go_simp; (first | done | with_reducible rfl)))) | refine Hv.pure (v := _) (by rfl) (by rfl) (by rfl) (fun wx hS => Se.xl rfl rfl (by rw [((hs.ext hS).hold (.blk g1 41 _) List.mem_cons_self).cell]; rfl) (by decide +kernel)) ?_); (try simp only [Act.put, List.setIfInBounds_toArray, List.set_cons_zero, List.set_cons_succ]))
  refine Hv.noise (m := _) (by rfl) (by rfl) (by rfl) (Hv.row_ex _ _) (fun wx hS hf => ?_) (fun v hv => ?_)
  ·unfold Hv.Gives
   go_simp
   exact Hv.row_new wx [v8 h.al, v8 h.dg] 5
  obtain ⟨b5, rfl⟩ := hv
  (try simp only [Act.put, List.setIfInBounds_toArray, List.set_cons_zero, List.set_cons_succ])
  iterate 2 ((first | (refine Hv.pure (v := ?_) (by rfl) (by rfl) (by rfl) (fun wx hS => ?_) ?_; rotate_left; (focus (go_simp; (first | done | with_reducible rfl)))) | refine Hv.pure (v := _) (by rfl) (by rfl) (by rfl) (fun wx hS => Se.xl rfl rfl (by rw [((hs.ext hS).hold (.blk g1 41 _) List.mem_cons_self).cell]; rfl) (by decide +kernel)) ?_); (try simp only [Act.put, List.setIfInBounds_toArray, List.set_cons_zero, List.set_cons_succ]))
  refine Hv.noise (m := _) (by rfl) (by rfl) (by rfl) (Nown_ex _ _ _) (fun wx hS hf => ?_) (fun v hv => ?_)
  ·refine Se.gcall (f := 56) (args := #[.int .u32 (n32 h.mx), .int .i64 4]) ?_ ?_
   ·go_simp
   refine Calls.mono (number_any wx h.mx 4 (by omega)) ?_
   rintro e w' ⟨r, B, c, rfl, hn⟩
   exact ⟨_, rfl, Nown_new hS hn⟩
  obtain ⟨A8, c8, rfl⟩ := hv
  (try simp only [Act.put, List.setIfInBounds_toArray, List.set_cons_zero, List.set_cons_succ])
  refine Hv.noise (m := _) (by rfl) (by rfl) (by rfl) (Nparts_ex _ _) (fun wx hS hf => ?_) (fun v hv => ?_)
  ·have f0 := hf _ (List.mem_cons_of_mem _ (List.mem_cons_of_mem _ (List.mem_cons_self))) ⟨[0, 9], by simp, rfl⟩
   have f5 := hf _ (List.mem_cons_of_mem _ (List.mem_cons_self)) ⟨[5, 9], by simp, rfl⟩
   have f8 := hf _ (List.mem_cons_self) ⟨[8, 9], by simp, rfl⟩
   exact Nparts_bs wx ([⟨A0, c0, numL 0#32 2⟩, ⟨some ⟨b5, 0, none⟩, 2, [h.al, h.dg]⟩, ⟨A8, c8, numL h.mx 4⟩]) rfl (by rfl) (by rfl) (by decide) (by decide) (by simp only [List.forall_mem_cons, List.not_mem_nil, false_imp_iff, implies_true, and_true]; exact ⟨Nown_rd f0, row_rd f5, Nown_rd f8⟩) (by first | rfl | (simp only [flat2, flat3, flat4]; rfl))
  obtain ⟨b9, rfl⟩ := hv
  (try simp only [Act.put, List.setIfInBounds_toArray, List.set_cons_zero, List.set_cons_succ])
  refine Hv.noise (m := _) (by rfl) (by rfl) (by rfl) (Nown_ex _ _ _) (fun wx hS hf => ?_) (fun v hv => ?_)
  ·have f9 := hf _ (List.mem_cons_self) ⟨[9, 10], by simp, rfl⟩
   refine Se.gcall (f := 58) (args := #[.int .i64 120, .slice (some ⟨b9, 0, none⟩) 3 3]) ?_ ?_
   ·go_simp
   refine Calls.mono (fields_np wx 120 f9 YL.out (by omega) (by omega) Y.out) ?_
   rintro e w' ⟨r, B, c, rfl, hn⟩
   exact ⟨_, rfl, Nown_new hS hn⟩
  obtain ⟨A, c, rfl⟩ := hv
  (try simp only [Act.put, List.setIfInBounds_toArray, List.set_cons_zero, List.set_cons_succ])
  iterate 1 ((first | (refine Hv.pure (v := ?_) (by rfl) (by rfl) (by rfl) (fun wx hS => ?_) ?_; rotate_left; (focus (go_simp; (first | done | with_reducible rfl))))); (try simp only [Act.put, List.setIfInBounds_toArray, List.set_cons_zero, List.set_cons_succ]))
  refine Hv.done (fun wx hS hf => ?_)
  obtain ⟨rr, kk⟩ := hf _ (List.mem_cons_self) _ _ rfl
  replace hs := hs.join kk (by simp [At.noRd])
  clear kk hf hS
  simp only [List.cons_append, List.nil_append] at hs
  simp only [List.drop_succ_cons, List.drop_nil, List.drop_zero]
  go_wp2_with fail
  go_ret
  exact ⟨rr, A, c, rfl, hs.u11.drop⟩
section
attribute [local go_sem] Bv.wrap_n32_of Bv.of32_n16
set_option maxRecDepth 100000 in
set_option maxHeartbeats 4000000 in
theorem writeEnd_st (hs : St w0 X L w) : Calls Try.prog 80 #[.agg (pc h EA en ec DA dn dc).toArray] w fun e w' => ∃ r B c, e = .returned (.slice B 16 c) ∧ St w0 X (.own 1 r B 16 c ((wEnd h ++ zs 10).map v8) :: L) w' := by
 have Y := Lib.hid (show wEnd h ++ zs (16 - (wEnd h).length) = wEnd h ++ zs 10 by simp [wEnd, numL_length])
 have YL := Lib.hid (show (wEnd h).length ≤ 16 by simp [wEnd, numL_length])
 unfold pc
 go_enter Try.func80, Try.ntmps80
 go_upto_region 1 with (first | ((first | with_reducible refine Se.ab hs ?_ | with_reducible refine Se.abc hs ?_); clear hs; (first | (generalize w.heap.size = g1; intro w hs))))
 refine Hv.grow 10 (fun | 3 => some (Nown w 2 ((numL (h.st.setWidth 32) 2).map v8)) | 6 => some (Nown w 4 ((numL h.nf 4).map v8)) | 7 => some (Nparts 2 (wEnd h)) | 8 => some (Nown w 16 ((wEnd h ++ zs 10).map v8)) | _ => none) (fun | 7 => [[3, 7], [6, 7]] | 8 => [[7, 8]] | _ => []) (by kernel_rfl) (by kernel_rfl) ?_ ?_
 ·intro i m hm v wa wb hR hv
  split at hm <;> first | cases hm | skip
  all_goals first | exact Hv.row_st hR hv | exact Hv.con_st hR hv | exact Nown_st hR hv | exact Nparts_st hR hv
 ·change Hv.HW _ _ _ _ _ _ _ [0, 1, 2, 3, 4, 5, 6, 7, 8, 9] _ _
  iterate 3 ((first | (refine Hv.pure (v := ?_) (by rfl) (by rfl) (by rfl) (fun wx hS => ?_) ?_; rotate_left; (focus (go_simp; (first | done | with_reducible rfl)))) | refine Hv.pure (v := _) (by rfl) (by rfl) (by rfl) (fun wx hS => Se.xl rfl rfl (by rw [((hs.ext hS).hold (.blk g1 41 _) List.mem_cons_self).cell]; rfl) (by decide +kernel)) ?_); (try simp only [Act.put, List.setIfInBounds_toArray, List.set_cons_zero, List.set_cons_succ]))
  refine Hv.noise (m := _) (by rfl) (by rfl) (by rfl) (Nown_ex _ _ _) (fun wx hS hf => ?_) (fun v hv => ?_)
  ·refine Se.gcall (f := 56) (args := #[.int .u32 (n32 (h.st.setWidth 32)), .int .i64 2]) ?_ ?_
   ·go_simp
   refine Calls.mono (number_any wx (h.st.setWidth 32) 2 (by omega)) ?_
   rintro e w' ⟨r, B, c, rfl, hn⟩
   exact ⟨_, rfl, Nown_new hS hn⟩
  obtain ⟨A3, c3, rfl⟩ := hv
  (try simp only [Act.put, List.setIfInBounds_toArray, List.set_cons_zero, List.set_cons_succ])
  iterate 2 ((first | (refine Hv.pure (v := ?_) (by rfl) (by rfl) (by rfl) (fun wx hS => ?_) ?_; rotate_left; (focus (go_simp; (first | done | with_reducible rfl)))) | refine Hv.pure (v := _) (by rfl) (by rfl) (by rfl) (fun wx hS => Se.xl rfl rfl (by rw [((hs.ext hS).hold (.blk g1 41 _) List.mem_cons_self).cell]; rfl) (by decide +kernel)) ?_); (try simp only [Act.put, List.setIfInBounds_toArray, List.set_cons_zero, List.set_cons_succ]))
  refine Hv.noise (m := _) (by rfl) (by rfl) (by rfl) (Nown_ex _ _ _) (fun wx hS hf => ?_) (fun v hv => ?_)
  ·refine Se.gcall (f := 56) (args := #[.int .u32 (n32 (h.nf)), .int .i64 4]) ?_ ?_
   ·go_simp
   refine Calls.mono (number_any wx (h.nf) 4 (by omega)) ?_
   rintro e w' ⟨r, B, c, rfl, hn⟩
   exact ⟨_, rfl, Nown_new hS hn⟩
  obtain ⟨A6, c6, rfl⟩ := hv
  (try simp only [Act.put, List.setIfInBounds_toArray, List.set_cons_zero, List.set_cons_succ])
  refine Hv.noise (m := _) (by rfl) (by rfl) (by rfl) (Nparts_ex _ _) (fun wx hS hf => ?_) (fun v hv => ?_)
  ·have f3 := hf _ (List.mem_cons_of_mem _ (List.mem_cons_self)) ⟨[3, 7], by simp, rfl⟩
   have f6 := hf _ (List.mem_cons_self) ⟨[6, 7], by simp, rfl⟩
   exact Nparts_bs wx ([⟨A3, c3, numL (h.st.setWidth 32) 2⟩, ⟨A6, c6, numL (h.nf) 4⟩]) rfl (by rfl) (by rfl) (by decide) (by decide) (by simp only [List.forall_mem_cons, List.not_mem_nil, false_imp_iff, implies_true, and_true]; exact ⟨Nown_rd f3, Nown_rd f6⟩) (by first | rfl | (simp only [flat2, flat3, flat4]; rfl))
  obtain ⟨b9, rfl⟩ := hv
  (try simp only [Act.put, List.setIfInBounds_toArray, List.set_cons_zero, List.set_cons_succ])
  refine Hv.noise (m := _) (by rfl) (by rfl) (by rfl) (Nown_ex _ _ _) (fun wx hS hf => ?_) (fun v hv => ?_)
  ·have f9 := hf _ (List.mem_cons_self) ⟨[7, 8], by simp, rfl⟩
   refine Se.gcall (f := 58) (args := #[.int .i64 16, .slice (some ⟨b9, 0, none⟩) 2 2]) ?_ ?_
   ·go_simp
   refine Calls.mono (fields_np wx 16 f9 YL.out (by omega) (by omega) Y.out) ?_
   rintro e w' ⟨r, B, c, rfl, hn⟩
   exact ⟨_, rfl, Nown_new hS hn⟩
  obtain ⟨A, c, rfl⟩ := hv
  (try simp only [Act.put, List.setIfInBounds_toArray, List.set_cons_zero, List.set_cons_succ])
  iterate 1 ((first | (refine Hv.pure (v := ?_) (by rfl) (by rfl) (by rfl) (fun wx hS => ?_) ?_; rotate_left; (focus (go_simp; (first | done | with_reducible rfl))))); (try simp only [Act.put, List.setIfInBounds_toArray, List.set_cons_zero, List.set_cons_succ]))
  refine Hv.done (fun wx hS hf => ?_)
  obtain ⟨rr, kk⟩ := hf _ (List.mem_cons_self) _ _ rfl
  replace hs := hs.join kk (by simp [At.noRd])
  clear kk hf hS
  simp only [List.cons_append, List.nil_append] at hs
  simp only [List.drop_succ_cons, List.drop_nil, List.drop_zero]
  go_wp2_with fail
  go_ret
  exact ⟨rr, A, c, rfl, hs.u11.drop⟩
set_option maxRecDepth 100000 in
set_option maxHeartbeats 4000000 in
theorem writeReady_st (hs : St w0 X L w) : Calls Try.prog 87 #[.agg (pc h EA en ec DA dn dc).toArray] w fun e w' => ∃ r B c, e = .returned (.slice B 16 c) ∧ St w0 X (.own 1 r B 16 c ((wReady h ++ zs 4).map v8) :: L) w' := by
 have Y := Lib.hid (show wReady h ++ zs (16 - (wReady h).length) = wReady h ++ zs 4 by simp [wReady, numL_length])
 have YL := Lib.hid (show (wReady h).length ≤ 16 by simp [wReady, numL_length])
 unfold pc
 go_enter Try.func87, Try.ntmps87
 go_upto_region 1 with (first | ((first | with_reducible refine Se.ab hs ?_ | with_reducible refine Se.abc hs ?_); clear hs; (first | (generalize w.heap.size = g1; intro w hs))))
 refine Hv.grow 17 (fun | 3 => some (Nown w 2 ((numL (h.id.setWidth 32) 2).map v8)) | 7 => some (Nown w 2 ((numL (h.tg.setWidth 32) 2).map v8)) | 10 => some (Nown w 4 ((numL h.of 4).map v8)) | 13 => some (Nown w 4 ((numL h.ln 4).map v8)) | 14 => some (Nparts 4 (wReady h)) | 15 => some (Nown w 16 ((wReady h ++ zs 4).map v8)) | _ => none) (fun | 14 => [[3, 14], [7, 14], [10, 14], [13, 14]] | 15 => [[14, 15]] | _ => []) (by kernel_rfl) (by kernel_rfl) ?_ ?_
 ·intro i m hm v wa wb hR hv
  split at hm <;> first | cases hm | skip
  all_goals first | exact Hv.row_st hR hv | exact Hv.con_st hR hv | exact Nown_st hR hv | exact Nparts_st hR hv
 ·change Hv.HW _ _ _ _ _ _ _ [0, 1, 2, 3, 4, 5, 6, 7, 8, 9, 10, 11, 12, 13, 14, 15, 16] _ _
  iterate 3 ((first | (refine Hv.pure (v := ?_) (by rfl) (by rfl) (by rfl) (fun wx hS => ?_) ?_; rotate_left; (focus (go_simp; (first | done | with_reducible rfl)))) | refine Hv.pure (v := _) (by rfl) (by rfl) (by rfl) (fun wx hS => Se.xl rfl rfl (by rw [((hs.ext hS).hold (.blk g1 41 _) List.mem_cons_self).cell]; rfl) (by decide +kernel)) ?_); (try simp only [Act.put, List.setIfInBounds_toArray, List.set_cons_zero, List.set_cons_succ]))
  refine Hv.noise (m := _) (by rfl) (by rfl) (by rfl) (Nown_ex _ _ _) (fun wx hS hf => ?_) (fun v hv => ?_)
  ·refine Se.gcall (f := 56) (args := #[.int .u32 (n32 (h.id.setWidth 32)), .int .i64 2]) ?_ ?_
   ·go_simp
   refine Calls.mono (number_any wx (h.id.setWidth 32) 2 (by omega)) ?_
   rintro e w' ⟨r, B, c, rfl, hn⟩
   exact ⟨_, rfl, Nown_new hS hn⟩
  obtain ⟨A3, c3, rfl⟩ := hv
  (try simp only [Act.put, List.setIfInBounds_toArray, List.set_cons_zero, List.set_cons_succ])
  iterate 3 ((first | (refine Hv.pure (v := ?_) (by rfl) (by rfl) (by rfl) (fun wx hS => ?_) ?_; rotate_left; (focus (go_simp; (first | done | with_reducible rfl)))) | refine Hv.pure (v := _) (by rfl) (by rfl) (by rfl) (fun wx hS => Se.xl rfl rfl (by rw [((hs.ext hS).hold (.blk g1 41 _) List.mem_cons_self).cell]; rfl) (by decide +kernel)) ?_); (try simp only [Act.put, List.setIfInBounds_toArray, List.set_cons_zero, List.set_cons_succ]))
  refine Hv.noise (m := _) (by rfl) (by rfl) (by rfl) (Nown_ex _ _ _) (fun wx hS hf => ?_) (fun v hv => ?_)
  ·refine Se.gcall (f := 56) (args := #[.int .u32 (n32 (h.tg.setWidth 32)), .int .i64 2]) ?_ ?_
   ·go_simp
   refine Calls.mono (number_any wx (h.tg.setWidth 32) 2 (by omega)) ?_
   rintro e w' ⟨r, B, c, rfl, hn⟩
   exact ⟨_, rfl, Nown_new hS hn⟩
  obtain ⟨A7, c7, rfl⟩ := hv
  (try simp only [Act.put, List.setIfInBounds_toArray, List.set_cons_zero, List.set_cons_succ])
  iterate 2 ((first | (refine Hv.pure (v := ?_) (by rfl) (by rfl) (by rfl) (fun wx hS => ?_) ?_; rotate_left; (focus (go_simp; (first | done | with_reducible rfl)))) | refine Hv.pure (v := _) (by rfl) (by rfl) (by rfl) (fun wx hS => Se.xl rfl rfl (by rw [((hs.ext hS).hold (.blk g1 41 _) List.mem_cons_self).cell]; rfl) (by decide +kernel)) ?_); (try simp only [Act.put, List.setIfInBounds_toArray, List.set_cons_zero, List.set_cons_succ]))
  refine Hv.noise (m := _) (by rfl) (by rfl) (by rfl) (Nown_ex _ _ _) (fun wx hS hf => ?_) (fun v hv => ?_)
  ·refine Se.gcall (f := 56) (args := #[.int .u32 (n32 (h.of)), .int .i64 4]) ?_ ?_
   ·go_simp
   refine Calls.mono (number_any wx (h.of) 4 (by omega)) ?_
   rintro e w' ⟨r, B, c, rfl, hn⟩
   exact ⟨_, rfl, Nown_new hS hn⟩
  obtain ⟨A10, c10, rfl⟩ := hv
  (try simp only [Act.put, List.setIfInBounds_toArray, List.set_cons_zero, List.set_cons_succ])
  iterate 2 ((first | (refine Hv.pure (v := ?_) (by rfl) (by rfl) (by rfl) (fun wx hS => ?_) ?_; rotate_left; (focus (go_simp; (first | done | with_reducible rfl)))) | refine Hv.pure (v := _) (by rfl) (by rfl) (by rfl) (fun wx hS => Se.xl rfl rfl (by rw [((hs.ext hS).hold (.blk g1 41 _) List.mem_cons_self).cell]; rfl) (by decide +kernel)) ?_); (try simp only [Act.put, List.setIfInBounds_toArray, List.set_cons_zero, List.set_cons_succ]))
  refine Hv.noise (m := _) (by rfl) (by rfl) (by rfl) (Nown_ex _ _ _) (fun wx hS hf => ?_) (fun v hv => ?_)
  ·refine Se.gcall (f := 56) (args := #[.int .u32 (n32 (h.ln)), .int .i64 4]) ?_ ?_
   ·go_simp
   refine Calls.mono (number_any wx (h.ln) 4 (by omega)) ?_
   rintro e w' ⟨r, B, c, rfl, hn⟩
   exact ⟨_, rfl, Nown_new hS hn⟩
  obtain ⟨A13, c13, rfl⟩ := hv
  (try simp only [Act.put, List.setIfInBounds_toArray, List.set_cons_zero, List.set_cons_succ])
  refine Hv.noise (m := _) (by rfl) (by rfl) (by rfl) (Nparts_ex _ _) (fun wx hS hf => ?_) (fun v hv => ?_)
  ·have f3 := hf _ (List.mem_cons_of_mem _ (List.mem_cons_of_mem _ (List.mem_cons_of_mem _ (List.mem_cons_self)))) ⟨[3, 14], by simp, rfl⟩
   have f7 := hf _ (List.mem_cons_of_mem _ (List.mem_cons_of_mem _ (List.mem_cons_self))) ⟨[7, 14], by simp, rfl⟩
   have f10 := hf _ (List.mem_cons_of_mem _ (List.mem_cons_self)) ⟨[10, 14], by simp, rfl⟩
   have f13 := hf _ (List.mem_cons_self) ⟨[13, 14], by simp, rfl⟩
   exact Nparts_bs wx ([⟨A3, c3, numL (h.id.setWidth 32) 2⟩, ⟨A7, c7, numL (h.tg.setWidth 32) 2⟩, ⟨A10, c10, numL (h.of) 4⟩, ⟨A13, c13, numL (h.ln) 4⟩]) rfl (by rfl) (by rfl) (by decide) (by decide) (by simp only [List.forall_mem_cons, List.not_mem_nil, false_imp_iff, implies_true, and_true]; exact ⟨Nown_rd f3, Nown_rd f7, Nown_rd f10, Nown_rd f13⟩) (by first | rfl | (simp only [flat2, flat3, flat4]; rfl))
  obtain ⟨b9, rfl⟩ := hv
  (try simp only [Act.put, List.setIfInBounds_toArray, List.set_cons_zero, List.set_cons_succ])
  refine Hv.noise (m := _) (by rfl) (by rfl) (by rfl) (Nown_ex _ _ _) (fun wx hS hf => ?_) (fun v hv => ?_)
  ·have f9 := hf _ (List.mem_cons_self) ⟨[14, 15], by simp, rfl⟩
   refine Se.gcall (f := 58) (args := #[.int .i64 16, .slice (some ⟨b9, 0, none⟩) 4 4]) ?_ ?_
   ·go_simp
   refine Calls.mono (fields_np wx 16 f9 YL.out (by omega) (by omega) Y.out) ?_
   rintro e w' ⟨r, B, c, rfl, hn⟩
   exact ⟨_, rfl, Nown_new hS hn⟩
  obtain ⟨A, c, rfl⟩ := hv
  (try simp only [Act.put, List.setIfInBounds_toArray, List.set_cons_zero, List.set_cons_succ])
  iterate 1 ((first | (refine Hv.pure (v := ?_) (by rfl) (by rfl) (by rfl) (fun wx hS => ?_) ?_; rotate_left; (focus (go_simp; (first | done | with_reducible rfl))))); (try simp only [Act.put, List.setIfInBounds_toArray, List.set_cons_zero, List.set_cons_succ]))
  refine Hv.done (fun wx hS hf => ?_)
  obtain ⟨rr, kk⟩ := hf _ (List.mem_cons_self) _ _ rfl
  replace hs := hs.join kk (by simp [At.noRd])
  clear kk hf hS
  simp only [List.cons_append, List.nil_append] at hs
  simp only [List.drop_succ_cons, List.drop_nil, List.drop_zero]
  go_wp2_with fail
  go_ret
  exact ⟨rr, A, c, rfl, hs.u11.drop⟩
set_option maxRecDepth 100000 in
set_option maxHeartbeats 4000000 in
theorem writeData_st (hs : St w0 X L w) : Calls Try.prog 84 #[.agg (pc h EA en ec DA dn dc).toArray] w fun e w' => ∃ r B c, e = .returned (.slice B 16 c) ∧ St w0 X (.own 1 r B 16 c ((wData h dn ++ zs 4).map v8) :: L) w' := by
 have Y := Lib.hid (show wData h dn ++ zs (16 - (wData h dn).length) = wData h dn ++ zs 4 by simp [wData, numL_length])
 have YL := Lib.hid (show (wData h dn).length ≤ 16 by simp [wData, numL_length])
 unfold pc
 go_enter Try.func84, Try.ntmps84
 go_upto_region 1 with (first | ((first | with_reducible refine Se.ab hs ?_ | with_reducible refine Se.abc hs ?_); clear hs; (first | (generalize w.heap.size = g1; intro w hs))))
 refine Hv.grow 19 (fun | 3 => some (Nown w 2 ((numL (h.id.setWidth 32) 2).map v8)) | 7 => some (Nown w 2 ((numL (h.tg.setWidth 32) 2).map v8)) | 10 => some (Nown w 4 ((numL h.of 4).map v8)) | 15 => some (Nown w 4 ((numL (BitVec.ofNat 32 dn) 4).map v8)) | 16 => some (Nparts 4 (wData h dn)) | 17 => some (Nown w 16 ((wData h dn ++ zs 4).map v8)) | _ => none) (fun | 16 => [[3, 16], [7, 16], [10, 16], [15, 16]] | 17 => [[16, 17]] | _ => []) (by kernel_rfl) (by kernel_rfl) ?_ ?_
 ·intro i m hm v wa wb hR hv
  split at hm <;> first | cases hm | skip
  all_goals first | exact Hv.row_st hR hv | exact Hv.con_st hR hv | exact Nown_st hR hv | exact Nparts_st hR hv
 ·change Hv.HW _ _ _ _ _ _ _ [0, 1, 2, 3, 4, 5, 6, 7, 8, 9, 10, 11, 12, 13, 14, 15, 16, 17, 18] _ _
  iterate 3 ((first | (refine Hv.pure (v := ?_) (by rfl) (by rfl) (by rfl) (fun wx hS => ?_) ?_; rotate_left; (focus (go_simp; (first | done | with_reducible rfl)))) | refine Hv.pure (v := _) (by rfl) (by rfl) (by rfl) (fun wx hS => Se.xl rfl rfl (by rw [((hs.ext hS).hold (.blk g1 41 _) List.mem_cons_self).cell]; rfl) (by decide +kernel)) ?_); (try simp only [Act.put, List.setIfInBounds_toArray, List.set_cons_zero, List.set_cons_succ]))
  refine Hv.noise (m := _) (by rfl) (by rfl) (by rfl) (Nown_ex _ _ _) (fun wx hS hf => ?_) (fun v hv => ?_)
  ·refine Se.gcall (f := 56) (args := #[.int .u32 (n32 (h.id.setWidth 32)), .int .i64 2]) ?_ ?_
   ·go_simp
   refine Calls.mono (number_any wx (h.id.setWidth 32) 2 (by omega)) ?_
   rintro e w' ⟨r, B, c, rfl, hn⟩
   exact ⟨_, rfl, Nown_new hS hn⟩
  obtain ⟨A3, c3, rfl⟩ := hv
  (try simp only [Act.put, List.setIfInBounds_toArray, List.set_cons_zero, List.set_cons_succ])
  iterate 3 ((first | (refine Hv.pure (v := ?_) (by rfl) (by rfl) (by rfl) (fun wx hS => ?_) ?_; rotate_left; (focus (go_simp; (first | done | with_reducible rfl)))) | refine Hv.pure (v := _) (by rfl) (by rfl) (by rfl) (fun wx hS => Se.xl rfl rfl (by rw [((hs.ext hS).hold (.blk g1 41 _) List.mem_cons_self).cell]; rfl) (by decide +kernel)) ?_); (try simp only [Act.put, List.setIfInBounds_toArray, List.set_cons_zero, List.set_cons_succ]))
  refine Hv.noise (m := _) (by rfl) (by rfl) (by rfl) (Nown_ex _ _ _) (fun wx hS hf => ?_) (fun v hv => ?_)
  ·refine Se.gcall (f := 56) (args := #[.int .u32 (n32 (h.tg.setWidth 32)), .int .i64 2]) ?_ ?_
   ·go_simp
   refine Calls.mono (number_any wx (h.tg.setWidth 32) 2 (by omega)) ?_
   rintro e w' ⟨r, B, c, rfl, hn⟩
   exact ⟨_, rfl, Nown_new hS hn⟩
  obtain ⟨A7, c7, rfl⟩ := hv
  (try simp only [Act.put, List.setIfInBounds_toArray, List.set_cons_zero, List.set_cons_succ])
  iterate 2 ((first | (refine Hv.pure (v := ?_) (by rfl) (by rfl) (by rfl) (fun wx hS => ?_) ?_; rotate_left; (focus (go_simp; (first | done | with_reducible rfl)))) | refine Hv.pure (v := _) (by rfl) (by rfl) (by rfl) (fun wx hS => Se.xl rfl rfl (by rw [((hs.ext hS).hold (.blk g1 41 _) List.mem_cons_self).cell]; rfl) (by decide +kernel)) ?_); (try simp only [Act.put, List.setIfInBounds_toArray, List.set_cons_zero, List.set_cons_succ]))
  refine Hv.noise (m := _) (by rfl) (by rfl) (by rfl) (Nown_ex _ _ _) (fun wx hS hf => ?_) (fun v hv => ?_)
  ·refine Se.gcall (f := 56) (args := #[.int .u32 (n32 (h.of)), .int .i64 4]) ?_ ?_
   ·go_simp
   refine Calls.mono (number_any wx (h.of) 4 (by omega)) ?_
   rintro e w' ⟨r, B, c, rfl, hn⟩
   exact ⟨_, rfl, Nown_new hS hn⟩
  obtain ⟨A10, c10, rfl⟩ := hv
  (try simp only [Act.put, List.setIfInBounds_toArray, List.set_cons_zero, List.set_cons_succ])
  iterate 4 ((first | (refine Hv.pure (v := ?_) (by rfl) (by rfl) (by rfl) (fun wx hS => ?_) ?_; rotate_left; (focus (go_simp; (first | done | with_reducible rfl)))) | refine Hv.pure (v := _) (by rfl) (by rfl) (by rfl) (fun wx hS => Se.xl rfl rfl (by rw [((hs.ext hS).hold (.blk g1 41 _) List.mem_cons_self).cell]; rfl) (by decide +kernel)) ?_); (try simp only [Act.put, List.setIfInBounds_toArray, List.set_cons_zero, List.set_cons_succ]))
  refine Hv.noise (m := _) (by rfl) (by rfl) (by rfl) (Nown_ex _ _ _) (fun wx hS hf => ?_) (fun v hv => ?_)
  ·refine Se.gcall (f := 56) (args := #[.int .u32 (n32 (BitVec.ofNat 32 dn)), .int .i64 4]) ?_ ?_
   ·go_simp
   refine Calls.mono (number_any wx (BitVec.ofNat 32 dn) 4 (by omega)) ?_
   rintro e w' ⟨r, B, c, rfl, hn⟩
   exact ⟨_, rfl, Nown_new hS hn⟩
  obtain ⟨A15, c15, rfl⟩ := hv
  (try simp only [Act.put, List.setIfInBounds_toArray, List.set_cons_zero, List.set_cons_succ])
  refine Hv.noise (m := _) (by rfl) (by rfl) (by rfl) (Nparts_ex _ _) (fun wx hS hf => ?_) (fun v hv => ?_)
  ·have f3 := hf _ (List.mem_cons_of_mem _ (List.mem_cons_of_mem _ (List.mem_cons_of_mem _ (List.mem_cons_self)))) ⟨[3, 16], by simp, rfl⟩
   have f7 := hf _ (List.mem_cons_of_mem _ (List.mem_cons_of_mem _ (List.mem_cons_self))) ⟨[7, 16], by simp, rfl⟩
   have f10 := hf _ (List.mem_cons_of_mem _ (List.mem_cons_self)) ⟨[10, 16], by simp, rfl⟩
   have f15 := hf _ (List.mem_cons_self) ⟨[15, 16], by simp, rfl⟩
   exact Nparts_bs wx ([⟨A3, c3, numL (h.id.setWidth 32) 2⟩, ⟨A7, c7, numL (h.tg.setWidth 32) 2⟩, ⟨A10, c10, numL (h.of) 4⟩, ⟨A15, c15, numL (BitVec.ofNat 32 dn) 4⟩]) rfl (by rfl) (by rfl) (by decide) (by decide) (by simp only [List.forall_mem_cons, List.not_mem_nil, false_imp_iff, implies_true, and_true]; exact ⟨Nown_rd f3, Nown_rd f7, Nown_rd f10, Nown_rd f15⟩) (by first | rfl | (simp only [flat2, flat3, flat4]; rfl))
  obtain ⟨b9, rfl⟩ := hv
  (try simp only [Act.put, List.setIfInBounds_toArray, List.set_cons_zero, List.set_cons_succ])
  refine Hv.noise (m := _) (by rfl) (by rfl) (by rfl) (Nown_ex _ _ _) (fun wx hS hf => ?_) (fun v hv => ?_)
  ·have f9 := hf _ (List.mem_cons_self) ⟨[16, 17], by simp, rfl⟩
   refine Se.gcall (f := 58) (args := #[.int .i64 16, .slice (some ⟨b9, 0, none⟩) 4 4]) ?_ ?_
   ·go_simp
   refine Calls.mono (fields_np wx 16 f9 YL.out (by omega) (by omega) Y.out) ?_
   rintro e w' ⟨r, B, c, rfl, hn⟩
   exact ⟨_, rfl, Nown_new hS hn⟩
  obtain ⟨A, c, rfl⟩ := hv
  (try simp only [Act.put, List.setIfInBounds_toArray, List.set_cons_zero, List.set_cons_succ])
  iterate 1 ((first | (refine Hv.pure (v := ?_) (by rfl) (by rfl) (by rfl) (fun wx hS => ?_) ?_; rotate_left; (focus (go_simp; (first | done | with_reducible rfl))))); (try simp only [Act.put, List.setIfInBounds_toArray, List.set_cons_zero, List.set_cons_succ]))
  refine Hv.done (fun wx hS hf => ?_)
  obtain ⟨rr, kk⟩ := hf _ (List.mem_cons_self) _ _ rfl
  replace hs := hs.join kk (by simp [At.noRd])
  clear kk hf hS
  simp only [List.cons_append, List.nil_append] at hs
  simp only [List.drop_succ_cons, List.drop_nil, List.drop_zero]
  go_wp2_with fail
  go_ret
  exact ⟨rr, A, c, rfl, hs.u11.drop⟩
end
set_option maxRecDepth 100000 in
set_option maxHeartbeats 4000000 in
theorem writeEntry_st (hs : St w0 X L w) {bs : List (BitVec 8)} (hn : en = bs.length) (hE : Reads L EA (bs.map v8)) (hle : en ≤ 70368744177664) : Calls Try.prog 82 #[.agg (pc h EA en ec DA dn dc).toArray] w fun e w' => ∃ r B c, e = .returned (.slice B en c) ∧ St w0 X (.own 1 r B en c (bs.map v8) :: L) w' := by
 have HN := Lib.hid hn
 have HE := Lib.hid hE
 unfold pc
 clear hn hE
 go_enter Try.func82, Try.ntmps82
 go_wp2_with (first | ((with_reducible refine Se.isL (o := ⟨some 4, _, _, _, _, _⟩) ?_); (refine Se.toL rfl (Se.ld (o := ⟨some 4, _, _, _, _, _⟩) hs rfl rfl (Cell.blk 0 rfl rfl) (by kernel_rfl) ?_))) | ((first | with_reducible refine Se.ab hs ?_ | with_reducible refine Se.abc hs ?_); clear hs; (first | (generalize w.heap.size = g1; intro w hs))) | (go_at_call 49; refine Calls.mono (clone_st hs (HE.out.cons _) HN.out hle) ?_; clear hs; rintro e w ⟨r, B, c, rfl, hs⟩))
 go_ret
 exact ⟨r, B, c, rfl, hs.u11.drop⟩
end Pd
end Go.Proofs.Ytdngfcmakjlamaa


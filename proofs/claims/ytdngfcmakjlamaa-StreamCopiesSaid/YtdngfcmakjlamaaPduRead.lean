/- Layer 35: the readers of the specific headers. No condition but Go's own limits. Printed by wip/gen_pduread.py. -/
import Derived.Test.YtdngfcmakjlamaaPduMeasW
import Derived.Test.YtdngfcmakjlamaaPduHv
set_option linter.unusedSimpArgs false
set_option linter.unusedVariables false
namespace Go.Proofs.Ytdngfcmakjlamaa
open Go Go.RowKit
namespace Pd
open Se (St At Reads Cell)
open Li (v8 v8_one Rd Blk Fr)
open Bv (n8 n16 n32 n64)
variable {w0 w : World} {X : List Nat} {L : List At} {P : List Value} {gp : Nat}
attribute [local irreducible] Calls
theorem rd_sub {L : List At} {g off : Nat} {bs : List (BitVec 8)} (h : Reads L (some ⟨g, off, none⟩) (bs.map v8)) (i j : Nat) : Reads L (some ⟨g, off + i, none⟩) ((sub bs i j).map v8) := by
 have := (h.take j).at i
 simpa only [sub, List.map_take, List.map_drop] using this
theorem value_at {g off c : Nat} {bs : List (BitVec 8)} (h : Reads L (some ⟨g, off, none⟩) (bs.map v8)) (i j m : Nat) (hm : m = j - i) (h4 : m ≤ 4) (hj : j ≤ bs.length) {A : Addr} (hA : A = ⟨g, off + i, none⟩) :
  Hid (∀ (L' : List At) (w : World), St w0 X (L' ++ L) w → Calls Try.prog 98 #[.slice (some A) m c] w fun e w' => e = .returned (.int .u32 (n32 (w32 (sub bs i j)))) ∧ St w0 X (L' ++ L) w') := Lib.hid (fun L' w hs => by
 subst hA
 refine (value_any w (sub bs i j) m c (by simp; omega) h4 (((rd_sub h i j).app L') w hs.hold)).mono (fun e w' k => ⟨k.1, by rw [k.2]; exact hs⟩))
theorem wrap16 (bs : List (BitVec 8)) (i j : Nat) (h : j - i ≤ 2) : IntKind.u16.wrap (n32 (w32 (sub bs i j))) = n16 (w16 (sub bs i j)) := by
 have h1 := bigL_lt (sub bs i j)
 have h2 : (sub bs i j).length ≤ 2 := by simp; omega
 have h3 : bigL (sub bs i j) < 65536 := by
  have : 256 ^ (sub bs i j).length ≤ 256 ^ 2 := Nat.pow_le_pow_right (by omega) h2
  omega
 unfold w32 w16
 rw [Bv.wrap_n16_of]
 congr 1
 unfold n32
 apply BitVec.eq_of_toNat_eq
 rw [BitVec.toNat_ofNat, BitVec.toNat_ofInt, BitVec.toNat_ofNat]
 omega
set_option maxRecDepth 100000 in
set_option maxHeartbeats 4000000 in
theorem readData_st (hs : St w0 X (.blk gp 41 P :: L) w) (hP : P.length = 14) (bs : List (BitVec 8)) {g off n c : Nat} (hn : n = bs.length) (h16 : n = 16) (hc : n ≤ c) (hS : Reads L (some ⟨g, off, none⟩) (bs.map v8)) :
  Calls Try.prog 85 #[.slice (some ⟨g, off, none⟩) n c, .pointer (some ⟨gp, 0, none⟩)] w fun e w' => e = .returned (.slice (some ⟨g, off + 12, none⟩) 4 (c - 12)) ∧ St w0 X (.blk gp 41 ((((P.set 4 (.int .u16 (n16 (w16 (bs.take 2))))).set 5 (.int .u16 (n16 (w16 (sub bs 2 4))))).set 6 (.int .u32 (n32 (w32 (sub bs 4 8))))).set 7 (.int .u32 (n32 (w32 (sub bs 8 12))))) :: L) w' := by
 have HPL := Lib.hid hP
 subst h16
 have C0 := value_at (w0 := w0) (X := X) (c := c) hS 0 2 2 rfl (by omega) (by omega) (A := ⟨g, off, none⟩) rfl
 have C2 := value_at (w0 := w0) (X := X) (c := c - 2) hS 2 4 2 rfl (by omega) (by omega) (A := ⟨g, off + 2, none⟩) rfl
 have C4 := value_at (w0 := w0) (X := X) (c := c - 4) hS 4 8 4 rfl (by omega) (by omega) (A := ⟨g, off + 4, none⟩) rfl
 have C8 := value_at (w0 := w0) (X := X) (c := c - 8) hS 8 12 4 rfl (by omega) (by omega) (A := ⟨g, off + 8, none⟩) rfl
 have e0 : IntKind.u16.wrap (n32 (w32 (bs.take 2))) = n16 (w16 (bs.take 2)) := by simpa [sub] using wrap16 bs 0 2 (by omega)
 have e2 := wrap16 bs 2 4 (by omega)
 have a2 : (2 : Int) ≤ (c : Int) := by omega
 have b2 : 2 ≤ c := by omega
 have d2 : ¬ c = 2 := by omega
 have a4 : (4 : Int) ≤ (c : Int) := by omega
 have b4 : 4 ≤ c := by omega
 have d4 : ¬ c = 4 := by omega
 have a8 : (8 : Int) ≤ (c : Int) := by omega
 have b8 : 8 ≤ c := by omega
 have d8 : ¬ c = 8 := by omega
 have a12 : (12 : Int) ≤ (c : Int) := by omega
 have b12 : 12 ≤ c := by omega
 have d12 : ¬ c = 12 := by omega
 clear hP hn hS hc
 go_enter Try.func85, Try.ntmps85
 go_upto_region 1 with (fail)
 refine Ch.region' 30 (fun _ => True) (fun | 6 => true | 10 => true | 14 => true | 17 => true | 20 => true | 23 => true | 26 => true | 29 => true | _ => false) (by kernel_rfl) (by decide +kernel) (trivial) ?_
 replace hs := hs.drew
 generalize w.drew = w at hs ⊢
 change Ch.CW _ _ _ _ _ [0, 1, 2, 3, 4, 5, 6, 7, 8, 9, 10, 11, 12, 13, 14, 15, 16, 17, 18, 19, 20, 21, 22, 23, 24, 25, 26, 27, 28, 29] _ _
 iterate 6 ((first | (refine Ch.pure (v := ?_) (by rfl) (by rfl) (by rfl) (fun wx hS => ?_) ?_; rotate_left; (focus (go_simp; (first | done | with_reducible rfl))))); (try simp only [Act.put, List.setIfInBounds_toArray, List.set_cons_zero, List.set_cons_succ]))
 refine Ch.noise (by rfl) (by rfl) (by rfl) ?_
 refine Se.gcall (f := 98) (args := #[.slice (some ⟨g, off, none⟩) 2 c]) ?_ ?_
 ·go_simp
 refine Calls.mono (C0.out [_] _ hs) ?_
 clear hs
 rintro e w ⟨rfl, hs⟩
 refine ⟨_, rfl, trivial, ?_⟩
 (try simp only [Act.put, List.setIfInBounds_toArray, List.set_cons_zero, List.set_cons_succ])
 iterate 3 ((first | (refine Ch.pure (v := ?_) (by rfl) (by rfl) (by rfl) (fun wx hS => ?_) ?_; rotate_left; (focus (go_simp; (first | done | with_reducible rfl))))); (try simp only [Act.put, List.setIfInBounds_toArray, List.set_cons_zero, List.set_cons_succ]))
 refine Ch.noise (by rfl) (by rfl) (by rfl) ?_
 refine Se.gcall (f := 98) (args := #[.slice (some ⟨g, off + 2, none⟩) 2 (c - 2)]) ?_ ?_
 ·go_simp
 refine Calls.mono (C2.out [_] _ hs) ?_
 clear hs
 rintro e w ⟨rfl, hs⟩
 refine ⟨_, rfl, trivial, ?_⟩
 (try simp only [Act.put, List.setIfInBounds_toArray, List.set_cons_zero, List.set_cons_succ])
 iterate 3 ((first | (refine Ch.pure (v := ?_) (by rfl) (by rfl) (by rfl) (fun wx hS => ?_) ?_; rotate_left; (focus (go_simp; (first | done | with_reducible rfl))))); (try simp only [Act.put, List.setIfInBounds_toArray, List.set_cons_zero, List.set_cons_succ]))
 refine Ch.noise (by rfl) (by rfl) (by rfl) ?_
 refine Se.gcall (f := 98) (args := #[.slice (some ⟨g, off + 4, none⟩) 4 (c - 4)]) ?_ ?_
 ·go_simp
 refine Calls.mono (C4.out [_] _ hs) ?_
 clear hs
 rintro e w ⟨rfl, hs⟩
 refine ⟨_, rfl, trivial, ?_⟩
 (try simp only [Act.put, List.setIfInBounds_toArray, List.set_cons_zero, List.set_cons_succ])
 iterate 2 ((first | (refine Ch.pure (v := ?_) (by rfl) (by rfl) (by rfl) (fun wx hS => ?_) ?_; rotate_left; (focus (go_simp; (first | done | with_reducible rfl))))); (try simp only [Act.put, List.setIfInBounds_toArray, List.set_cons_zero, List.set_cons_succ]))
 refine Ch.noise (by rfl) (by rfl) (by rfl) ?_
 refine Se.gcall (f := 98) (args := #[.slice (some ⟨g, off + 8, none⟩) 4 (c - 8)]) ?_ ?_
 ·go_simp
 refine Calls.mono (C8.out [_] _ hs) ?_
 clear hs
 rintro e w ⟨rfl, hs⟩
 refine ⟨_, rfl, trivial, ?_⟩
 (try simp only [Act.put, List.setIfInBounds_toArray, List.set_cons_zero, List.set_cons_succ])
 iterate 2 ((first | (refine Ch.pure (v := ?_) (by rfl) (by rfl) (by rfl) (fun wx hS => ?_) ?_; rotate_left; (focus (go_simp; (first | done | with_reducible rfl))))); (try simp only [Act.put, List.setIfInBounds_toArray, List.set_cons_zero, List.set_cons_succ]))
 refine Ch.noise (by rfl) (by rfl) (by rfl) (Se.so 0 (v := .int .u16 (n16 (w16 (bs.take 2)))) hs rfl rfl rfl rfl rfl (by kernel_rfl) (by (try simp only [List.length_set]); rw [HPL.out]; decide) ?_)
 clear hs
 intro w hs
 simp only [List.cons_append, List.nil_append, List.set_cons_zero, List.set_cons_succ] at hs
 refine ⟨trivial, ?_⟩
 (try simp only [Act.put, List.setIfInBounds_toArray, List.set_cons_zero, List.set_cons_succ])
 iterate 2 ((first | (refine Ch.pure (v := ?_) (by rfl) (by rfl) (by rfl) (fun wx hS => ?_) ?_; rotate_left; (focus (go_simp; (first | done | with_reducible rfl))))); (try simp only [Act.put, List.setIfInBounds_toArray, List.set_cons_zero, List.set_cons_succ]))
 refine Ch.noise (by rfl) (by rfl) (by rfl) (Se.so 0 (v := .int .u16 (n16 (w16 (sub bs 2 4)))) hs rfl rfl rfl rfl rfl (by kernel_rfl) (by (try simp only [List.length_set]); rw [HPL.out]; decide) ?_)
 clear hs
 intro w hs
 simp only [List.cons_append, List.nil_append, List.set_cons_zero, List.set_cons_succ] at hs
 refine ⟨trivial, ?_⟩
 (try simp only [Act.put, List.setIfInBounds_toArray, List.set_cons_zero, List.set_cons_succ])
 iterate 2 ((first | (refine Ch.pure (v := ?_) (by rfl) (by rfl) (by rfl) (fun wx hS => ?_) ?_; rotate_left; (focus (go_simp; (first | done | with_reducible rfl))))); (try simp only [Act.put, List.setIfInBounds_toArray, List.set_cons_zero, List.set_cons_succ]))
 refine Ch.noise (by rfl) (by rfl) (by rfl) (Se.so 0 (v := .int .u32 (n32 (w32 (sub bs 4 8)))) hs rfl rfl rfl rfl rfl (by kernel_rfl) (by (try simp only [List.length_set]); rw [HPL.out]; decide) ?_)
 clear hs
 intro w hs
 simp only [List.cons_append, List.nil_append, List.set_cons_zero, List.set_cons_succ] at hs
 refine ⟨trivial, ?_⟩
 (try simp only [Act.put, List.setIfInBounds_toArray, List.set_cons_zero, List.set_cons_succ])
 iterate 2 ((first | (refine Ch.pure (v := ?_) (by rfl) (by rfl) (by rfl) (fun wx hS => ?_) ?_; rotate_left; (focus (go_simp; (first | done | with_reducible rfl))))); (try simp only [Act.put, List.setIfInBounds_toArray, List.set_cons_zero, List.set_cons_succ]))
 refine Ch.noise (by rfl) (by rfl) (by rfl) (Se.so 0 (v := .int .u32 (n32 (w32 (sub bs 8 12)))) hs rfl rfl rfl rfl rfl (by kernel_rfl) (by (try simp only [List.length_set]); rw [HPL.out]; decide) ?_)
 clear hs
 intro w hs
 simp only [List.cons_append, List.nil_append, List.set_cons_zero, List.set_cons_succ] at hs
 refine ⟨trivial, ?_⟩
 (try simp only [Act.put, List.setIfInBounds_toArray, List.set_cons_zero, List.set_cons_succ])
 refine Ch.done ?_
 try simp only [List.drop_succ_cons, List.drop_zero]
 go_wp2_with fail
 go_ret
 exact ⟨rfl, hs⟩
set_option maxRecDepth 100000 in
set_option maxHeartbeats 4000000 in
theorem readEnd_st (hs : St w0 X (.blk gp 41 P :: L) w) (hP : P.length = 14) (bs : List (BitVec 8)) {g off n c : Nat} (hn : n = bs.length) (h16 : n = 16) (hc : n ≤ c) (hS : Reads L (some ⟨g, off, none⟩) (bs.map v8)) :
  Calls Try.prog 81 #[.slice (some ⟨g, off, none⟩) n c, .pointer (some ⟨gp, 0, none⟩)] w fun e w' => e = .returned (.slice (some ⟨g, off + 6, none⟩) 10 (c - 6)) ∧ St w0 X (.blk gp 41 ((P.set 11 (.int .u16 (n16 (w16 (bs.take 2))))).set 12 (.int .u32 (n32 (w32 (sub bs 2 6))))) :: L) w' := by
 have HPL := Lib.hid hP
 subst h16
 have C0 := value_at (w0 := w0) (X := X) (c := c) hS 0 2 2 rfl (by omega) (by omega) (A := ⟨g, off, none⟩) rfl
 have C2 := value_at (w0 := w0) (X := X) (c := c - 2) hS 2 6 4 rfl (by omega) (by omega) (A := ⟨g, off + 2, none⟩) rfl
 have e0 : IntKind.u16.wrap (n32 (w32 (bs.take 2))) = n16 (w16 (bs.take 2)) := by simpa [sub] using wrap16 bs 0 2 (by omega)
 have a2 : (2 : Int) ≤ (c : Int) := by omega
 have b2 : 2 ≤ c := by omega
 have d2 : ¬ c = 2 := by omega
 have a6 : (6 : Int) ≤ (c : Int) := by omega
 have b6 : 6 ≤ c := by omega
 have d6 : ¬ c = 6 := by omega
 clear hP hn hS hc
 go_enter Try.func81, Try.ntmps81
 go_upto_region 1 with (fail)
 refine Ch.region' 15 (fun _ => True) (fun | 4 => true | 8 => true | 11 => true | 14 => true | _ => false) (by kernel_rfl) (by decide +kernel) (trivial) ?_
 replace hs := hs.drew
 generalize w.drew = w at hs ⊢
 change Ch.CW _ _ _ _ _ [0, 1, 2, 3, 4, 5, 6, 7, 8, 9, 10, 11, 12, 13, 14] _ _
 iterate 4 ((first | (refine Ch.pure (v := ?_) (by rfl) (by rfl) (by rfl) (fun wx hS => ?_) ?_; rotate_left; (focus (go_simp; (first | done | with_reducible rfl))))); (try simp only [Act.put, List.setIfInBounds_toArray, List.set_cons_zero, List.set_cons_succ]))
 refine Ch.noise (by rfl) (by rfl) (by rfl) ?_
 refine Se.gcall (f := 98) (args := #[.slice (some ⟨g, off, none⟩) 2 c]) ?_ ?_
 ·go_simp
 refine Calls.mono (C0.out [_] _ hs) ?_
 clear hs
 rintro e w ⟨rfl, hs⟩
 refine ⟨_, rfl, trivial, ?_⟩
 (try simp only [Act.put, List.setIfInBounds_toArray, List.set_cons_zero, List.set_cons_succ])
 iterate 3 ((first | (refine Ch.pure (v := ?_) (by rfl) (by rfl) (by rfl) (fun wx hS => ?_) ?_; rotate_left; (focus (go_simp; (first | done | with_reducible rfl))))); (try simp only [Act.put, List.setIfInBounds_toArray, List.set_cons_zero, List.set_cons_succ]))
 refine Ch.noise (by rfl) (by rfl) (by rfl) ?_
 refine Se.gcall (f := 98) (args := #[.slice (some ⟨g, off + 2, none⟩) 4 (c - 2)]) ?_ ?_
 ·go_simp
 refine Calls.mono (C2.out [_] _ hs) ?_
 clear hs
 rintro e w ⟨rfl, hs⟩
 refine ⟨_, rfl, trivial, ?_⟩
 (try simp only [Act.put, List.setIfInBounds_toArray, List.set_cons_zero, List.set_cons_succ])
 iterate 2 ((first | (refine Ch.pure (v := ?_) (by rfl) (by rfl) (by rfl) (fun wx hS => ?_) ?_; rotate_left; (focus (go_simp; (first | done | with_reducible rfl))))); (try simp only [Act.put, List.setIfInBounds_toArray, List.set_cons_zero, List.set_cons_succ]))
 refine Ch.noise (by rfl) (by rfl) (by rfl) (Se.so 0 (v := .int .u16 (n16 (w16 (bs.take 2)))) hs rfl rfl rfl rfl rfl (by kernel_rfl) (by (try simp only [List.length_set]); rw [HPL.out]; decide) ?_)
 clear hs
 intro w hs
 simp only [List.cons_append, List.nil_append, List.set_cons_zero, List.set_cons_succ] at hs
 refine ⟨trivial, ?_⟩
 (try simp only [Act.put, List.setIfInBounds_toArray, List.set_cons_zero, List.set_cons_succ])
 iterate 2 ((first | (refine Ch.pure (v := ?_) (by rfl) (by rfl) (by rfl) (fun wx hS => ?_) ?_; rotate_left; (focus (go_simp; (first | done | with_reducible rfl))))); (try simp only [Act.put, List.setIfInBounds_toArray, List.set_cons_zero, List.set_cons_succ]))
 refine Ch.noise (by rfl) (by rfl) (by rfl) (Se.so 0 (v := .int .u32 (n32 (w32 (sub bs 2 6)))) hs rfl rfl rfl rfl rfl (by kernel_rfl) (by (try simp only [List.length_set]); rw [HPL.out]; decide) ?_)
 clear hs
 intro w hs
 simp only [List.cons_append, List.nil_append, List.set_cons_zero, List.set_cons_succ] at hs
 refine ⟨trivial, ?_⟩
 (try simp only [Act.put, List.setIfInBounds_toArray, List.set_cons_zero, List.set_cons_succ])
 refine Ch.done ?_
 try simp only [List.drop_succ_cons, List.drop_zero]
 go_wp2_with fail
 go_ret
 exact ⟨rfl, hs⟩
set_option maxRecDepth 100000 in
set_option maxHeartbeats 4000000 in
theorem readInit_st (hs : St w0 X (.blk gp 41 P :: L) w) (hP : P.length = 14) (bs : List (BitVec 8)) {g off n c : Nat} (hn : n = bs.length) (h16 : n = 120) (hc : n ≤ c) (hS : Reads L (some ⟨g, off, none⟩) (bs.map v8)) :
  Calls Try.prog 77 #[.slice (some ⟨g, off, none⟩) n c, .pointer (some ⟨gp, 0, none⟩)] w fun e w' => ∃ r A c', e = .returned (.slice A 114 c') ∧ St w0 X (.own 1 r A 114 c' ((bs.take 2 ++ bs.drop 8).map v8) :: .blk gp 41 (((P.set 8 (.int .u8 (n8 (bs.getD 2 0#8)))).set 9 (.int .u8 (n8 (bs.getD 3 0#8)))).set 10 (.int .u32 (n32 (w32 (sub bs 4 8))))) :: L) w' := by
 have HPL := Lib.hid hP
 subst h16
 have C4 := value_at (w0 := w0) (X := X) (c := c - 4) hS 4 8 4 rfl (by omega) (by omega) (A := ⟨g, off + 4, none⟩) rfl
 have a2 : (2 : Int) ≤ (c : Int) := by omega
 have b2 : 2 ≤ c := by omega
 have d2 : ¬ c = 2 := by omega
 have a4 : (4 : Int) ≤ (c : Int) := by omega
 have b4 : 4 ≤ c := by omega
 have d4 : ¬ c = 4 := by omega
 have a8 : (8 : Int) ≤ (c : Int) := by omega
 have b8 : 8 ≤ c := by omega
 have d8 : ¬ c = 8 := by omega
 have V2 := Lib.hid (show (bs.map v8)[2]? = some (.int .u8 (n8 (bs.getD 2 0#8))) from v8_at bs 2 (by omega))
 have V3 := Lib.hid (show (bs.map v8)[3]? = some (.int .u8 (n8 (bs.getD 3 0#8))) from v8_at bs 3 (by omega))
 have PTS : Hid (∀ L' : List At, ∀ p ∈ [(⟨some ⟨g, off, none⟩, c, bs.take 2⟩ : Pt), ⟨some ⟨g, off + 8, none⟩, c - 8, bs.drop 8⟩], Reads (L' ++ L) p.A (p.bs.map v8)) := Lib.hid (by
  intro L' p hp
  simp only [List.mem_cons, List.not_mem_nil, or_false] at hp
  rcases hp with rfl | rfl
  ·simpa only [List.map_take] using (hS.take 2).app L'
  ·simpa only [List.map_drop] using (hS.at 8).app L')
 have HS := Lib.hid hS
 have HN := Lib.hid hn
 clear hP hn hS hc
 go_enter Try.func77, Try.ntmps77
 go_upto_region 1 with (fail)
 refine Ch.region' 21 (fun wx => Rd wx (some ⟨g, off, none⟩) (bs.map v8)) (fun | 11 => true | 14 => true | 17 => true | 20 => true | _ => false) (by kernel_rfl) (by decide +kernel) (HS.out _ (fun a ha => hs.drew.hold a (by simp [ha]))) ?_
 replace hs := hs.drew
 generalize w.drew = w at hs ⊢
 change Ch.CW _ _ _ _ _ [0, 1, 2, 3, 4, 5, 6, 7, 8, 9, 10, 11, 12, 13, 14, 15, 16, 17, 18, 19, 20] _ _
 iterate 11 ((first | (refine Ch.pure (v := ?_) (by rfl) (by rfl) (by rfl) (fun wx hS => ?_) ?_; rotate_left; (focus (go_simp; (first | done | with_reducible rfl)))) | refine Ch.pure (v := _) (by rfl) (by rfl) (by rfl) (fun wx hS => Se.xl rfl rfl (Rd_c hS 2 V2.out) (by decide +kernel)) ?_ | refine Ch.pure (v := _) (by rfl) (by rfl) (by rfl) (fun wx hS => Se.xl rfl rfl (Rd_c hS 3 V3.out) (by decide +kernel)) ?_); (try simp only [Act.put, List.setIfInBounds_toArray, List.set_cons_zero, List.set_cons_succ]))
 refine Ch.noise (by rfl) (by rfl) (by rfl) ?_
 refine Se.gcall (f := 98) (args := #[.slice (some ⟨g, off + 4, none⟩) 4 (c - 4)]) ?_ ?_
 ·go_simp
 refine Calls.mono (C4.out [_] _ hs) ?_
 clear hs
 rintro e w ⟨rfl, hs⟩
 refine ⟨_, rfl, HS.out _ (fun a ha => hs.hold a (by simp [ha])), ?_⟩
 (try simp only [Act.put, List.setIfInBounds_toArray, List.set_cons_zero, List.set_cons_succ])
 iterate 2 ((first | (refine Ch.pure (v := ?_) (by rfl) (by rfl) (by rfl) (fun wx hS => ?_) ?_; rotate_left; (focus (go_simp; (first | done | with_reducible rfl))))); (try simp only [Act.put, List.setIfInBounds_toArray, List.set_cons_zero, List.set_cons_succ]))
 refine Ch.noise (by rfl) (by rfl) (by rfl) (Se.so 0 (v := .int .u8 (n8 (bs.getD 2 0#8))) hs rfl rfl rfl rfl rfl (by kernel_rfl) (by (try simp only [List.length_set]); rw [HPL.out]; decide) ?_)
 clear hs
 intro w hs
 simp only [List.cons_append, List.nil_append, List.set_cons_zero, List.set_cons_succ] at hs
 refine ⟨HS.out _ (fun a ha => hs.hold a (by simp [ha])), ?_⟩
 (try simp only [Act.put, List.setIfInBounds_toArray, List.set_cons_zero, List.set_cons_succ])
 iterate 2 ((first | (refine Ch.pure (v := ?_) (by rfl) (by rfl) (by rfl) (fun wx hS => ?_) ?_; rotate_left; (focus (go_simp; (first | done | with_reducible rfl))))); (try simp only [Act.put, List.setIfInBounds_toArray, List.set_cons_zero, List.set_cons_succ]))
 refine Ch.noise (by rfl) (by rfl) (by rfl) (Se.so 0 (v := .int .u8 (n8 (bs.getD 3 0#8))) hs rfl rfl rfl rfl rfl (by kernel_rfl) (by (try simp only [List.length_set]); rw [HPL.out]; decide) ?_)
 clear hs
 intro w hs
 simp only [List.cons_append, List.nil_append, List.set_cons_zero, List.set_cons_succ] at hs
 refine ⟨HS.out _ (fun a ha => hs.hold a (by simp [ha])), ?_⟩
 (try simp only [Act.put, List.setIfInBounds_toArray, List.set_cons_zero, List.set_cons_succ])
 iterate 2 ((first | (refine Ch.pure (v := ?_) (by rfl) (by rfl) (by rfl) (fun wx hS => ?_) ?_; rotate_left; (focus (go_simp; (first | done | with_reducible rfl))))); (try simp only [Act.put, List.setIfInBounds_toArray, List.set_cons_zero, List.set_cons_succ]))
 refine Ch.noise (by rfl) (by rfl) (by rfl) (Se.so 0 (v := .int .u32 (n32 (w32 (sub bs 4 8)))) hs rfl rfl rfl rfl rfl (by kernel_rfl) (by (try simp only [List.length_set]); rw [HPL.out]; decide) ?_)
 clear hs
 intro w hs
 simp only [List.cons_append, List.nil_append, List.set_cons_zero, List.set_cons_succ] at hs
 refine ⟨HS.out _ (fun a ha => hs.hold a (by simp [ha])), ?_⟩
 (try simp only [Act.put, List.setIfInBounds_toArray, List.set_cons_zero, List.set_cons_succ])
 refine Ch.done ?_
 try simp only [List.drop_succ_cons, List.drop_zero]
 go_upto_region 2 with (fail)
 refine Ch.region' 7 (fun _ => True) (fun | 4 => true | 5 => true | _ => false) (by kernel_rfl) (by decide +kernel) (trivial) ?_
 replace hs := hs.drew
 generalize w.drew = w at hs ⊢
 change Ch.CW _ _ _ _ _ [0, 1, 2, 3, 4, 5, 6] _ _
 iterate 4 ((first | (refine Ch.pure (v := ?_) (by rfl) (by rfl) (by rfl) (fun wx hS => ?_) ?_; rotate_left; (focus (go_simp; (first | done | with_reducible rfl))))); (try simp only [Act.put, List.setIfInBounds_toArray, List.set_cons_zero, List.set_cons_succ]))
 refine Ch.noise (by rfl) (by rfl) (by rfl) (Se.bsv hs rfl Try.underlying106 bysi rfl [.slice (some ⟨g, off, none⟩) 2 c, .slice (some ⟨g, off + 8, none⟩) 112 (c - 8)] (by rfl) rfl (by simp) (by simp) (by simp [Value.oneCell']) ?_)
 clear hs
 rintro w g27 - hs
 refine ⟨trivial, ?_⟩
 (try simp only [Act.put, List.setIfInBounds_toArray, List.set_cons_zero, List.set_cons_succ])
 refine Ch.noise (by rfl) (by rfl) (by rfl) ?_
 refine Se.gcall (f := 54) (args := #[.slice (some ⟨g27, 0, none⟩) 2 2]) ?_ ?_
 ·go_simp
 refine Calls.mono (concat_st' (k := 2) (q := 114) hs [⟨some ⟨g, off, none⟩, c, bs.take 2⟩, ⟨some ⟨g, off + 8, none⟩, c - 8, bs.drop 8⟩] (bs := bs.take 2 ++ bs.drop 8) rfl (by simp only [List.map_cons, List.map_nil, Pt.v, List.length_take, List.length_drop, ← HN.out]; exact Reads.blk 0 rfl) (PTS.out [_, _]) (by simp [flat]) (by simp [← HN.out]) (by omega) (by omega)) ?_
 clear hs
 rintro e w ⟨r, A, c', rfl, hs⟩
 refine ⟨_, rfl, trivial, ?_⟩
 (try simp only [Act.put, List.setIfInBounds_toArray, List.set_cons_zero, List.set_cons_succ])
 iterate 1 ((first | (refine Ch.pure (v := ?_) (by rfl) (by rfl) (by rfl) (fun wx hS => ?_) ?_; rotate_left; (focus (go_simp; (first | done | with_reducible rfl))))); (try simp only [Act.put, List.setIfInBounds_toArray, List.set_cons_zero, List.set_cons_succ]))
 refine Ch.done ?_
 try simp only [List.drop_succ_cons, List.drop_zero]
 go_wp2_with fail
 go_ret
 exact ⟨r, A, c', rfl, hs.perm (List.Perm.cons _ (List.Perm.refl _)) |>.sub (List.Sublist.cons_cons _ (.cons _ (List.Sublist.refl _)))⟩
set_option maxRecDepth 100000 in
set_option maxHeartbeats 4000000 in
theorem readEntry_st (hs : St w0 X (.blk gp 41 P :: L) w) (hP : P.length = 14) (bs : List (BitVec 8)) {A : Option Addr} {n c : Nat} (hn : n = bs.length) (hle : n ≤ 70368744177664) (hS : Reads L A (bs.map v8)) :
  Calls Try.prog 83 #[.slice A n c, .pointer (some ⟨gp, 0, none⟩)] w fun e w' => ∃ r B c', e = .returned (.slice none 0 0) ∧ St w0 X (.own 1 r B n c' (bs.map v8) :: .blk gp 41 (P.set 3 (.slice B n c')) :: L) w' := by
 have HPL := Lib.hid hP
 have HS := Lib.hid hS
 have HN := Lib.hid hn
 clear hP hn hS
 go_enter Try.func83, Try.ntmps83
 go_wp2_with (first | ((with_reducible refine Se.isL (o := ⟨none, _, _, _, _, _⟩) ?_); ((first | refine Se.toL rfl (Se.so 1 (v := .int _ _) hs rfl rfl rfl rfl rfl (by kernel_rfl) (by rw [HPL.out]; decide) ?_) | refine Se.toL rfl (Se.so 1 (v := .bool _) hs rfl rfl rfl rfl rfl (by kernel_rfl) (by rw [HPL.out]; decide) ?_) | refine Se.toL rfl (Se.so 1 (v := .slice _ _ _) hs rfl rfl rfl rfl rfl (by kernel_rfl) (by rw [HPL.out]; decide) ?_) | refine Se.toL rfl (Se.so 1 (v := .pointer _) hs rfl rfl rfl rfl rfl (by kernel_rfl) (by rw [HPL.out]; decide) ?_) | refine Se.toL rfl (Se.so 1 (v := .string _) hs rfl rfl rfl rfl rfl (by kernel_rfl) (by rw [HPL.out]; decide) ?_) | refine Se.toL rfl (Se.so 1 (v := .map _) hs rfl rfl rfl rfl rfl (by kernel_rfl) (by rw [HPL.out]; decide) ?_) | refine Se.toL rfl (Se.so 1 (v := .func _ _ _) hs rfl rfl rfl rfl rfl (by kernel_rfl) (by rw [HPL.out]; decide) ?_) | refine Se.toL rfl (Se.so 1 (v := .nilFunc) hs rfl rfl rfl rfl rfl (by kernel_rfl) (by rw [HPL.out]; decide) ?_)); clear hs; intro w hs; try simp only [List.cons_append, List.nil_append, List.set_cons_zero, List.set_cons_succ] at hs)) | (go_at_call 49; refine Calls.mono (clone_st hs (HS.out.cons _) HN.out hle) ?_; clear hs; rintro e w ⟨r, B, c', rfl, hs⟩))
 go_ret
 exact ⟨r, B, c', rfl, hs⟩
end Pd
end Go.Proofs.Ytdngfcmakjlamaa


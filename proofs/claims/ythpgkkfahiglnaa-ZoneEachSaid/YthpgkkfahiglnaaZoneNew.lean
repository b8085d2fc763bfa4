/- Layer 28: slices.Repeat, New. No condition but Go's own limits. Printed by wip/gen_zonenew.py. -/
import Derived.Test.YthpgkkfahiglnaaZoneMeth
import Derived.Test.YthpgkkfahiglnaaMul
set_option maxRecDepth 100000
set_option maxHeartbeats 4000000
set_option linter.unusedSimpArgs false
set_option linter.unusedVariables false
namespace Go.Proofs.Ythpgkkfahiglnaa
open Go Go.RowKit
namespace Zo
open Se (St At Reads Cell)
open Li (Rd Blk Fr)
variable {w0 w : World} {X : List Nat} {L : List At} {A : Option Addr}
attribute [local irreducible] Calls
attribute [local go_sem] eql_nil
def fl (xs Z : List Value) (m : Nat) : List Value := (List.replicate m xs).flatten ++ Z.drop (m * xs.length)
theorem rep_len (xs : List Value) (m : Nat) : (List.replicate m xs).flatten.length = m * xs.length := by simp [List.length_flatten]
theorem rep_take (xs : List Value) {m q : Nat} (h : q ≤ m) : (List.replicate m xs).flatten.take (q * xs.length) = (List.replicate q xs).flatten := by
 obtain ⟨r, rfl⟩ : ∃ r, m = q + r := ⟨m - q, by omega⟩
 rw [← List.replicate_append_replicate, List.flatten_append, List.take_append_of_le_length (by rw [rep_len]; exact Nat.le_refl _), List.take_of_length_le (by rw [rep_len]; exact Nat.le_refl _)]
theorem fl_copy (xs Z : List Value) {m q : Nat} (h : q ≤ m) : (fl xs Z m).take (m * xs.length) ++ ((List.replicate m xs).flatten.take (q * xs.length) ++ (fl xs Z m).drop (m * xs.length + q * xs.length)) = fl xs Z (m + q) := by
 have h1 : (fl xs Z m).take (m * xs.length) = (List.replicate m xs).flatten := by
  unfold fl; rw [List.take_append_of_le_length (by rw [rep_len]; exact Nat.le_refl _), List.take_of_length_le (by rw [rep_len]; exact Nat.le_refl _)]
 rw [h1, rep_take xs h]
 unfold fl
 rw [List.drop_append, List.drop_eq_nil_of_le (by rw [rep_len]; omega), List.nil_append, rep_len, List.drop_drop, ← List.append_assoc, ← List.flatten_append, List.replicate_append_replicate]
 congr 2
 rw [Nat.add_mul]; omega
theorem fl_len (xs Z : List Value) {n m : Nat} (hZ : Z.length = n * xs.length) (h : m ≤ n) : (fl xs Z m).length = n * xs.length := by
 have : m * xs.length ≤ n * xs.length := Nat.mul_le_mul_right _ h
 unfold fl; rw [List.length_append, rep_len, List.length_drop, hZ]; omega
theorem fl_read (xs Z : List Value) {m : Nat} : (fl xs Z m).take (m * xs.length) = (List.replicate m xs).flatten := by
 unfold fl; rw [List.take_append_of_le_length (by rw [rep_len]; exact Nat.le_refl _), List.take_of_length_le (by rw [rep_len]; exact Nat.le_refl _)]
theorem rep_one {xs : List Value} (h : ∀ v ∈ xs, v.oneCell' = true) (m : Nat) : ∀ v ∈ (List.replicate m xs).flatten, v.oneCell' = true := by
 intro v hv
 simp only [List.mem_flatten, List.mem_replicate] at hv
 obtain ⟨l, ⟨_, rfl⟩, hv⟩ := hv
 exact h v hv
theorem iOne : ∃ z, (Try.prog.info? 80).map (fun i => (i.zero, i.size, i.bytes)) = some (some z, 3, 24) ∧ z.cells.size = 3 := ⟨_, one_i, one_z⟩
theorem repeat_st (hs : St w0 X L w) (xs : List Value) (hl : xs.length = 3) (h1 : ∀ v ∈ xs, v.oneCell' = true) (hr : Reads L A xs) (n : Nat) (hn1 : 1 ≤ n) (hn2 : n ≤ 4096) :
  Calls Try.prog 33 #[.slice A 1 1, .int .i64 n] w fun e w' => ∃ g, e = .returned (.slice (some ⟨g, 0, none⟩) n n) ∧ St w0 X (.own 3 (some g) (some ⟨g, 0, none⟩) n n (List.replicate n xs).flatten :: L) w' := by
 have HL := Lib.hid hl
 have H1 := Lib.hid h1
 have HR := Lib.hid hr
 have HM := Lib.hid (fun w => Mu.mul_one n (by omega) w)
 obtain ⟨z, hz1, hz2⟩ := iOne
 have Z1 := Lib.hid hz1
 obtain ⟨Z, hZ⟩ : ∃ Z, Z = (List.replicate n z.cells.toList).flatten := ⟨_, rfl⟩
 have ZL := Lib.hid (show Z.length = n * 3 by rw [hZ, rep_len]; simp [hz2])
 have HZ := Lib.hid hZ
 have Z2 := Lib.hid hz2
 have hZ2 : Z.length = n * xs.length := by rw [ZL.out, hl]
 have FL := Lib.hid (fun m (h : m ≤ n) => show (fl xs Z m).length = n * 3 by rw [← hl]; exact fl_len xs Z hZ2 h)
 have F1 := Lib.hid (show Z.take 0 ++ (xs.take (1 * 3) ++ Z.drop (0 + 1 * 3)) = fl xs Z 1 by
  have := fl_copy xs Z (m := 0) (q := 0) (Nat.le_refl _)
  rw [List.take_zero, List.nil_append, List.take_of_length_le (by omega)]
  unfold fl; simp [hl])
 have FC := Lib.hid (fun (m q : Nat) (h : q ≤ m) => show (fl xs Z m).take (m * 3) ++ ((List.replicate m xs).flatten.take (q * 3) ++ (fl xs Z m).drop (m * 3 + q * 3)) = fl xs Z (m + q) by
  have := fl_copy xs Z h
  rwa [hl] at this)
 have FR := Lib.hid (fun (m : Nat) => show (fl xs Z m).take (m * 3) = (List.replicate m xs).flatten by
  have := fl_read xs Z (m := m)
  rwa [hl] at this)
 have FM := Lib.hid (fun (m : Nat) => show ((List.replicate m xs).flatten).length = m * 3 by rw [rep_len, hl])
 have hfl := Lib.hid (show (fl xs Z n) = (List.replicate n xs).flatten by unfold fl; rw [List.drop_eq_nil_of_le (by omega), List.append_nil])
 clear hl h1 hr hz1 hz2 hZ hZ2
 go_enter Try.func33, Try.ntmps33
 go_wp2_with (first | (go_at_call 69; refine Calls.mono (HM.out _) ?_; rintro e w' ⟨rfl, rfl⟩) | ((with_reducible refine Se.isL (o := ⟨some 30, _, _, _, _, _⟩) ?_); refine Se.toL rfl (Se.mk (o := ⟨some 30, _, _, _, _, _⟩) hs rfl Try.underlying69 Z1.out Z2.out n n rfl rfl rfl rfl (Nat.le_refl _) (by omega) (by omega) ?_); clear hs; rintro w g30 - hs; rw [← HZ.out] at hs) | ((with_reducible refine Se.isL (o := ⟨some 33, _, _, _, _, _⟩) ?_); refine Se.toL rfl (Se.cpr (o := ⟨some 33, _, _, _, _, _⟩) 0 hs rfl rfl rfl rfl (HR.out.cons _) Try.underlying69 (by kernel_rfl) H1.out (by rw [HL.out]) (by rw [ZL.out, Nat.zero_add]; exact Nat.le_refl _) (by omega) (by decide) (by decide) (q := 1) (Nat.min_eq_left hn1) F1.out ?_); clear hs; intro w hs; simp only [List.set_cons_zero] at hs))
 go_loopg [8] (n - 1) (fun gh s8 wr => ∃ m : Nat, gh = n - m ∧ 1 ≤ m ∧ m ≤ n ∧ s8 = .int .i64 m ∧ St w0 X (.blk g30 80 (fl xs Z m) :: L) wr)
 case atStart => exact ⟨1, rfl, Nat.le_refl _, hn1, rfl, hs⟩
 case round =>
  clear hs
  rename World => w
  obtain ⟨m, rfl, hm1, hm2, rfl, hs⟩ := hrel
  by_cases hlt : m < n
  ·have hlt' : (m : Int) < (n : Int) := by omega
   obtain ⟨q, hq⟩ : ∃ q, Nat.min m (n - m) = q := ⟨_, rfl⟩
   have hqm : q ≤ m := by rw [← hq]; exact Nat.min_le_left _ _
   have hqn : q ≤ n - m := by rw [← hq]; exact Nat.min_le_right _ _
   have hq1 : 1 ≤ q := by rw [← hq]; exact Nat.le_min.2 ⟨hm1, by omega⟩
   have HQ := Lib.hid hq
   have hnm : ¬ n = m := by omega
   have hmq : (m : Int) + (q : Int) ≤ n := by omega
   clear hq
   go_upto_region 9 with (fail)
   refine Ch.region' 10 (fun _ => True) (fun | 7 => true | _ => false) (by kernel_rfl) (by decide +kernel) (trivial) ?_
   replace hs := hs.drew
   generalize w.drew = w at hs ⊢
   change Ch.CW _ _ _ _ _ [0, 1, 2, 3, 4, 5, 6, 7, 8, 9] _ _
   iterate 7 (refine Ch.pure (v := ?_) (by rfl) (by rfl) (by rfl) (fun wx hS => ?_) ?_; rotate_left; (focus (go_simp; (first | done | with_reducible rfl))); (try simp only [Act.put, List.setIfInBounds_toArray, List.set_cons_zero, List.set_cons_succ]))
   refine Ch.noise (by rfl) (by rfl) (by rfl) (Se.cpr 0 hs rfl rfl rfl rfl (by rw [← FR.out m]; exact (Reads.blk 0 rfl).take _) Try.underlying69 (by kernel_rfl) (rep_one H1.out m) (FM.out m) (by rw [FL.out m hm2, ← Nat.add_mul, Nat.add_sub_cancel' hm2]; exact Nat.le_refl _) (by omega) (by omega) (by decide) HQ.out (FC.out m q hqm) ?_)
   clear hs
   intro w hs
   refine ⟨trivial, ?_⟩
   simp only [List.set_cons_zero] at hs
   (try simp only [Act.put, List.setIfInBounds_toArray, List.set_cons_zero, List.set_cons_succ])
   iterate 2 (refine Ch.pure (v := ?_) (by rfl) (by rfl) (by rfl) (fun wx hS => ?_) ?_; rotate_left; (focus (go_simp; (first | done | with_reducible rfl))); (try simp only [Act.put, List.setIfInBounds_toArray, List.set_cons_zero, List.set_cons_succ]))
   refine Ch.done ?_
   try simp only [List.drop_succ_cons, List.drop_zero]
   go_wp2_with fail
   go_roundg (n - (m + q))
   case measure => omega
   case rel => exact ⟨m + q, rfl, by omega, by omega, by rw [IntWalk.i64_in _ (by omega)]; go_num, hs⟩
  ·obtain rfl : m = n := by omega
   rw [hfl.out] at hs
   have hs := hs.blk_own 3 m m (by rw [FM.out m]; exact Nat.le_refl _) (Nat.le_refl _) (by unfold maxLen; omega)
   rw [List.take_of_length_le (by rw [FM.out m]; exact Nat.le_refl _)] at hs
   go_wp2_with fail
   go_ret
   exact ⟨_, rfl, hs⟩
theorem new_no (hs : St w0 X L w) {n sz cap mo ma : Int} (h : okC n sz cap mo ma = false) :
  Calls Try.prog 9 #[.agg #[.int .i64 n, .int .i64 sz, .int .i64 cap, .int .i64 mo, .int .i64 ma]] w fun e w' => e = .returned (.tuple #[.pointer none, iv 2]) ∧ St w0 X L w' := by
 obtain ⟨C, hC⟩ : ∃ C, C = [Value.int .i64 n, .int .i64 sz, .int .i64 cap, .int .i64 mo, .int .i64 ma] := ⟨_, rfl⟩
 have R0 := Lib.hid (show C[0]? = some (.int .i64 n) by rw [hC]; rfl)
 have R1 := Lib.hid (show C[1]? = some (.int .i64 sz) by rw [hC]; rfl)
 have R2 := Lib.hid (show C[2]? = some (.int .i64 cap) by rw [hC]; rfl)
 have R3 := Lib.hid (show C[3]? = some (.int .i64 mo) by rw [hC]; rfl)
 have R4 := Lib.hid (show C[4]? = some (.int .i64 ma) by rw [hC]; rfl)
 have hC2 : #[Value.int .i64 n, .int .i64 sz, .int .i64 cap, .int .i64 mo, .int .i64 ma] = C.toArray := by rw [hC]
 rw [hC2]
 clear hC hC2
 simp only [okC, decide_eq_false_iff_not] at h
 by_cases q1 : 1 ≤ n ∧ n ≤ 4096
 rotate_left
 ·have W1 := Lib.hid (show [n].all (fun x => decide ((1 : Int) ≤ x ∧ x ≤ 4096)) = false by simp <;> omega)
  clear h q1
  go_enter Try.func9, Try.ntmps9
  go_wp2_with (first | ((with_reducible refine Se.isL (o := ⟨some 5, _, _, _, _, _⟩) ?_); (refine Se.toL rfl (Se.ld (o := ⟨some 5, _, _, _, _, _⟩) hs rfl rfl (Cell.blk 0 rfl R0.out) (by kernel_rfl) ?_))) | ((with_reducible refine Se.isL (o := ⟨some 6, _, _, _, _, _⟩) ?_); (refine Se.toL rfl (Se.bsv (o := ⟨some 6, _, _, _, _, _⟩) hs rfl Try.underlying106 inti rfl ([.int .i64 n]) (by rfl) (by rfl) (by decide) (by decide) (by simp [Value.oneCell']) ?_); clear hs; rintro w g6 - hs)) | ((first | with_reducible refine Se.ab hs ?_ | with_reducible refine Se.abc hs ?_); clear hs; (first | (generalize w.heap.size = g1; intro w hs))) | (go_at_call 32; refine Calls.mono (within_st (n := 1) hs 1 4096 (xs := [n]) rfl (Reads.blk 0 rfl) (by decide) W1.out) ?_; clear hs; rintro e w ⟨rfl, hs⟩))
  go_ret2
  exact ⟨rfl, hs.drop.drop⟩
 have W1 := Lib.hid (show [n].all (fun x => decide ((1 : Int) ≤ x ∧ x ≤ 4096)) = true by simp <;> omega)
 by_cases q2 : 1 ≤ sz ∧ sz ≤ 65536
 rotate_left
 ·have W2 := Lib.hid (show [sz].all (fun x => decide ((1 : Int) ≤ x ∧ x ≤ 65536)) = false by simp <;> omega)
  clear h q1 q2
  go_enter Try.func9, Try.ntmps9
  go_wp2_with (first | ((with_reducible refine Se.isL (o := ⟨some 5, _, _, _, _, _⟩) ?_); (refine Se.toL rfl (Se.ld (o := ⟨some 5, _, _, _, _, _⟩) hs rfl rfl (Cell.blk 0 rfl R0.out) (by kernel_rfl) ?_))) | ((with_reducible refine Se.isL (o := ⟨some 6, _, _, _, _, _⟩) ?_); (refine Se.toL rfl (Se.bsv (o := ⟨some 6, _, _, _, _, _⟩) hs rfl Try.underlying106 inti rfl ([.int .i64 n]) (by rfl) (by rfl) (by decide) (by decide) (by simp [Value.oneCell']) ?_); clear hs; rintro w g6 - hs)) | ((with_reducible refine Se.isL (o := ⟨some 11, _, _, _, _, _⟩) ?_); (refine Se.toL rfl (Se.ld (o := ⟨some 11, _, _, _, _, _⟩) hs rfl rfl (Cell.blk 1 rfl R1.out) (by kernel_rfl) ?_))) | ((with_reducible refine Se.isL (o := ⟨some 12, _, _, _, _, _⟩) ?_); (refine Se.toL rfl (Se.bsv (o := ⟨some 12, _, _, _, _, _⟩) hs rfl Try.underlying106 inti rfl ([.int .i64 sz]) (by rfl) (by rfl) (by decide) (by decide) (by simp [Value.oneCell']) ?_); clear hs; rintro w g12 - hs)) | ((first | with_reducible refine Se.ab hs ?_ | with_reducible refine Se.abc hs ?_); clear hs; (first | (generalize w.heap.size = g1; intro w hs))) | (go_at_call 32; refine Calls.mono (within_st (n := 1) hs 1 4096 (xs := [n]) rfl (Reads.blk 0 rfl) (by decide) W1.out) ?_; clear hs; rintro e w ⟨rfl, hs⟩) | (go_at_call 32; refine Calls.mono (within_st (n := 1) hs 1 65536 (xs := [sz]) rfl (Reads.blk 0 rfl) (by decide) W2.out) ?_; clear hs; rintro e w ⟨rfl, hs⟩))
  go_ret2
  exact ⟨rfl, hs.drop.drop.drop⟩
 have W2 := Lib.hid (show [sz].all (fun x => decide ((1 : Int) ≤ x ∧ x ≤ 65536)) = true by simp <;> omega)
 by_cases q3 : 1 ≤ cap ∧ cap ≤ sz
 rotate_left
 ·have W3 := Lib.hid (show [cap].all (fun x => decide ((1 : Int) ≤ x ∧ x ≤ sz)) = false by simp <;> omega)
  clear h q1 q2 q3
  go_enter Try.func9, Try.ntmps9
  go_wp2_with (first | ((with_reducible refine Se.isL (o := ⟨some 5, _, _, _, _, _⟩) ?_); (refine Se.toL rfl (Se.ld (o := ⟨some 5, _, _, _, _, _⟩) hs rfl rfl (Cell.blk 0 rfl R0.out) (by kernel_rfl) ?_))) | ((with_reducible refine Se.isL (o := ⟨some 6, _, _, _, _, _⟩) ?_); (refine Se.toL rfl (Se.bsv (o := ⟨some 6, _, _, _, _, _⟩) hs rfl Try.underlying106 inti rfl ([.int .i64 n]) (by rfl) (by rfl) (by decide) (by decide) (by simp [Value.oneCell']) ?_); clear hs; rintro w g6 - hs)) | ((with_reducible refine Se.isL (o := ⟨some 11, _, _, _, _, _⟩) ?_); (refine Se.toL rfl (Se.ld (o := ⟨some 11, _, _, _, _, _⟩) hs rfl rfl (Cell.blk 1 rfl R1.out) (by kernel_rfl) ?_))) | ((with_reducible refine Se.isL (o := ⟨some 12, _, _, _, _, _⟩) ?_); (refine Se.toL rfl (Se.bsv (o := ⟨some 12, _, _, _, _, _⟩) hs rfl Try.underlying106 inti rfl ([.int .i64 sz]) (by rfl) (by rfl) (by decide) (by decide) (by simp [Value.oneCell']) ?_); clear hs; rintro w g12 - hs)) | ((with_reducible refine Se.isL (o := ⟨some 18, _, _, _, _, _⟩) ?_); (refine Se.toL rfl (Se.ld (o := ⟨some 18, _, _, _, _, _⟩) hs rfl rfl (Cell.blk 2 rfl R1.out) (by kernel_rfl) ?_))) | ((with_reducible refine Se.isL (o := ⟨some 20, _, _, _, _, _⟩) ?_); (refine Se.toL rfl (Se.ld (o := ⟨some 20, _, _, _, _, _⟩) hs rfl rfl (Cell.blk 2 rfl R2.out) (by kernel_rfl) ?_))) | ((with_reducible refine Se.isL (o := ⟨some 21, _, _, _, _, _⟩) ?_); (refine Se.toL rfl (Se.bsv (o := ⟨some 21, _, _, _, _, _⟩) hs rfl Try.underlying106 inti rfl ([.int .i64 cap]) (by rfl) (by rfl) (by decide) (by decide) (by simp [Value.oneCell']) ?_); clear hs; rintro w g21 - hs)) | ((first | with_reducible refine Se.ab hs ?_ | with_reducible refine Se.abc hs ?_); clear hs; (first | (generalize w.heap.size = g1; intro w hs))) | (go_at_call 32; refine Calls.mono (within_st (n := 1) hs 1 4096 (xs := [n]) rfl (Reads.blk 0 rfl) (by decide) W1.out) ?_; clear hs; rintro e w ⟨rfl, hs⟩) | (go_at_call 32; refine Calls.mono (within_st (n := 1) hs 1 65536 (xs := [sz]) rfl (Reads.blk 0 rfl) (by decide) W2.out) ?_; clear hs; rintro e w ⟨rfl, hs⟩) | (go_at_call 32; refine Calls.mono (within_st (n := 1) hs 1 sz (xs := [cap]) rfl (Reads.blk 0 rfl) (by decide) W3.out) ?_; clear hs; rintro e w ⟨rfl, hs⟩))
  go_ret2
  exact ⟨rfl, hs.drop.drop.drop.drop⟩
 have W3 := Lib.hid (show [cap].all (fun x => decide ((1 : Int) ≤ x ∧ x ≤ sz)) = true by simp <;> omega)
 by_cases q4 : (0 ≤ mo ∧ mo ≤ n) ∧ 0 ≤ ma ∧ ma ≤ n
 rotate_left
 ·have W4 := Lib.hid (show [mo, ma].all (fun x => decide ((0 : Int) ≤ x ∧ x ≤ n)) = false by simp <;> omega)
  clear h q1 q2 q3 q4
  go_enter Try.func9, Try.ntmps9
  go_wp2_with (first | ((with_reducible refine Se.isL (o := ⟨some 5, _, _, _, _, _⟩) ?_); (refine Se.toL rfl (Se.ld (o := ⟨some 5, _, _, _, _, _⟩) hs rfl rfl (Cell.blk 0 rfl R0.out) (by kernel_rfl) ?_))) | ((with_reducible refine Se.isL (o := ⟨some 6, _, _, _, _, _⟩) ?_); (refine Se.toL rfl (Se.bsv (o := ⟨some 6, _, _, _, _, _⟩) hs rfl Try.underlying106 inti rfl ([.int .i64 n]) (by rfl) (by rfl) (by decide) (by decide) (by simp [Value.oneCell']) ?_); clear hs; rintro w g6 - hs)) | ((with_reducible refine Se.isL (o := ⟨some 11, _, _, _, _, _⟩) ?_); (refine Se.toL rfl (Se.ld (o := ⟨some 11, _, _, _, _, _⟩) hs rfl rfl (Cell.blk 1 rfl R1.out) (by kernel_rfl) ?_))) | ((with_reducible refine Se.isL (o := ⟨some 12, _, _, _, _, _⟩) ?_); (refine Se.toL rfl (Se.bsv (o := ⟨some 12, _, _, _, _, _⟩) hs rfl Try.underlying106 inti rfl ([.int .i64 sz]) (by rfl) (by rfl) (by decide) (by decide) (by simp [Value.oneCell']) ?_); clear hs; rintro w g12 - hs)) | ((with_reducible refine Se.isL (o := ⟨some 18, _, _, _, _, _⟩) ?_); (refine Se.toL rfl (Se.ld (o := ⟨some 18, _, _, _, _, _⟩) hs rfl rfl (Cell.blk 2 rfl R1.out) (by kernel_rfl) ?_))) | ((with_reducible refine Se.isL (o := ⟨some 20, _, _, _, _, _⟩) ?_); (refine Se.toL rfl (Se.ld (o := ⟨some 20, _, _, _, _, _⟩) hs rfl rfl (Cell.blk 2 rfl R2.out) (by kernel_rfl) ?_))) | ((with_reducible refine Se.isL (o := ⟨some 21, _, _, _, _, _⟩) ?_); (refine Se.toL rfl (Se.bsv (o := ⟨some 21, _, _, _, _, _⟩) hs rfl Try.underlying106 inti rfl ([.int .i64 cap]) (by rfl) (by rfl) (by decide) (by decide) (by simp [Value.oneCell']) ?_); clear hs; rintro w g21 - hs)) | ((with_reducible refine Se.isL (o := ⟨some 27, _, _, _, _, _⟩) ?_); (refine Se.toL rfl (Se.ld (o := ⟨some 27, _, _, _, _, _⟩) hs rfl rfl (Cell.blk 3 rfl R0.out) (by kernel_rfl) ?_))) | ((with_reducible refine Se.isL (o := ⟨some 29, _, _, _, _, _⟩) ?_); (refine Se.toL rfl (Se.ld (o := ⟨some 29, _, _, _, _, _⟩) hs rfl rfl (Cell.blk 3 rfl R3.out) (by kernel_rfl) ?_))) | ((with_reducible refine Se.isL (o := ⟨some 31, _, _, _, _, _⟩) ?_); (refine Se.toL rfl (Se.ld (o := ⟨some 31, _, _, _, _, _⟩) hs rfl rfl (Cell.blk 3 rfl R4.out) (by kernel_rfl) ?_))) | ((with_reducible refine Se.isL (o := ⟨some 32, _, _, _, _, _⟩) ?_); (refine Se.toL rfl (Se.bsv (o := ⟨some 32, _, _, _, _, _⟩) hs rfl Try.underlying106 inti rfl ([.int .i64 mo, .int .i64 ma]) (by rfl) (by rfl) (by decide) (by decide) (by simp [Value.oneCell']) ?_); clear hs; rintro w g32 - hs)) | ((first | with_reducible refine Se.ab hs ?_ | with_reducible refine Se.abc hs ?_); clear hs; (first | (generalize w.heap.size = g1; intro w hs))) | (go_at_call 32; refine Calls.mono (within_st (n := 1) hs 1 4096 (xs := [n]) rfl (Reads.blk 0 rfl) (by decide) W1.out) ?_; clear hs; rintro e w ⟨rfl, hs⟩) | (go_at_call 32; refine Calls.mono (within_st (n := 1) hs 1 65536 (xs := [sz]) rfl (Reads.blk 0 rfl) (by decide) W2.out) ?_; clear hs; rintro e w ⟨rfl, hs⟩) | (go_at_call 32; refine Calls.mono (within_st (n := 1) hs 1 sz (xs := [cap]) rfl (Reads.blk 0 rfl) (by decide) W3.out) ?_; clear hs; rintro e w ⟨rfl, hs⟩) | (go_at_call 32; refine Calls.mono (within_st (n := 2) hs 0 n (xs := [mo,ma]) rfl (Reads.blk 0 rfl) (by decide) W4.out) ?_; clear hs; rintro e w ⟨rfl, hs⟩))
  go_ret2
  exact ⟨rfl, hs.drop.drop.drop.drop.drop⟩
 have W4 := Lib.hid (show [mo, ma].all (fun x => decide ((0 : Int) ≤ x ∧ x ≤ n)) = true by simp <;> omega)
 have q5 : 0 < ma ∧ ma < mo := by omega
 have d1 : decide (0 < ma) = true := by simp; omega
 have d2 : decide (ma < mo) = true := by simp; omega
 clear h q1 q2 q3 q4 q5
 go_enter Try.func9, Try.ntmps9
 go_wp2_with (first | ((with_reducible refine Se.isL (o := ⟨some 5, _, _, _, _, _⟩) ?_); (refine Se.toL rfl (Se.ld (o := ⟨some 5, _, _, _, _, _⟩) hs rfl rfl (Cell.blk 0 rfl R0.out) (by kernel_rfl) ?_))) | ((with_reducible refine Se.isL (o := ⟨some 6, _, _, _, _, _⟩) ?_); (refine Se.toL rfl (Se.bsv (o := ⟨some 6, _, _, _, _, _⟩) hs rfl Try.underlying106 inti rfl ([.int .i64 n]) (by rfl) (by rfl) (by decide) (by decide) (by simp [Value.oneCell']) ?_); clear hs; rintro w g6 - hs)) | ((with_reducible refine Se.isL (o := ⟨some 11, _, _, _, _, _⟩) ?_); (refine Se.toL rfl (Se.ld (o := ⟨some 11, _, _, _, _, _⟩) hs rfl rfl (Cell.blk 1 rfl R1.out) (by kernel_rfl) ?_))) | ((with_reducible refine Se.isL (o := ⟨some 12, _, _, _, _, _⟩) ?_); (refine Se.toL rfl (Se.bsv (o := ⟨some 12, _, _, _, _, _⟩) hs rfl Try.underlying106 inti rfl ([.int .i64 sz]) (by rfl) (by rfl) (by decide) (by decide) (by simp [Value.oneCell']) ?_); clear hs; rintro w g12 - hs)) | ((with_reducible refine Se.isL (o := ⟨some 18, _, _, _, _, _⟩) ?_); (refine Se.toL rfl (Se.ld (o := ⟨some 18, _, _, _, _, _⟩) hs rfl rfl (Cell.blk 2 rfl R1.out) (by kernel_rfl) ?_))) | ((with_reducible refine Se.isL (o := ⟨some 20, _, _, _, _, _⟩) ?_); (refine Se.toL rfl (Se.ld (o := ⟨some 20, _, _, _, _, _⟩) hs rfl rfl (Cell.blk 2 rfl R2.out) (by kernel_rfl) ?_))) | ((with_reducible refine Se.isL (o := ⟨some 21, _, _, _, _, _⟩) ?_); (refine Se.toL rfl (Se.bsv (o := ⟨some 21, _, _, _, _, _⟩) hs rfl Try.underlying106 inti rfl ([.int .i64 cap]) (by rfl) (by rfl) (by decide) (by decide) (by simp [Value.oneCell']) ?_); clear hs; rintro w g21 - hs)) | ((with_reducible refine Se.isL (o := ⟨some 27, _, _, _, _, _⟩) ?_); (refine Se.toL rfl (Se.ld (o := ⟨some 27, _, _, _, _, _⟩) hs rfl rfl (Cell.blk 3 rfl R0.out) (by kernel_rfl) ?_))) | ((with_reducible refine Se.isL (o := ⟨some 29, _, _, _, _, _⟩) ?_); (refine Se.toL rfl (Se.ld (o := ⟨some 29, _, _, _, _, _⟩) hs rfl rfl (Cell.blk 3 rfl R3.out) (by kernel_rfl) ?_))) | ((with_reducible refine Se.isL (o := ⟨some 31, _, _, _, _, _⟩) ?_); (refine Se.toL rfl (Se.ld (o := ⟨some 31, _, _, _, _, _⟩) hs rfl rfl (Cell.blk 3 rfl R4.out) (by kernel_rfl) ?_))) | ((with_reducible refine Se.isL (o := ⟨some 32, _, _, _, _, _⟩) ?_); (refine Se.toL rfl (Se.bsv (o := ⟨some 32, _, _, _, _, _⟩) hs rfl Try.underlying106 inti rfl ([.int .i64 mo, .int .i64 ma]) (by rfl) (by rfl) (by decide) (by decide) (by simp [Value.oneCell']) ?_); clear hs; rintro w g32 - hs)) | ((with_reducible refine Se.isL (o := ⟨some 38, _, _, _, _, _⟩) ?_); (refine Se.toL rfl (Se.ld (o := ⟨some 38, _, _, _, _, _⟩) hs rfl rfl (Cell.blk 4 rfl R4.out) (by kernel_rfl) ?_))) | ((with_reducible refine Se.isL (o := ⟨some 42, _, _, _, _, _⟩) ?_); (refine Se.toL rfl (Se.ld (o := ⟨some 42, _, _, _, _, _⟩) hs rfl rfl (Cell.blk 4 rfl R3.out) (by kernel_rfl) ?_))) | ((with_reducible refine Se.isL (o := ⟨some 44, _, _, _, _, _⟩) ?_); (refine Se.toL rfl (Se.ld (o := ⟨some 44, _, _, _, _, _⟩) hs rfl rfl (Cell.blk 4 rfl R4.out) (by kernel_rfl) ?_))) | ((first | with_reducible refine Se.ab hs ?_ | with_reducible refine Se.abc hs ?_); clear hs; (first | (generalize w.heap.size = g1; intro w hs))) | (go_at_call 32; refine Calls.mono (within_st (n := 1) hs 1 4096 (xs := [n]) rfl (Reads.blk 0 rfl) (by decide) W1.out) ?_; clear hs; rintro e w ⟨rfl, hs⟩) | (go_at_call 32; refine Calls.mono (within_st (n := 1) hs 1 65536 (xs := [sz]) rfl (Reads.blk 0 rfl) (by decide) W2.out) ?_; clear hs; rintro e w ⟨rfl, hs⟩) | (go_at_call 32; refine Calls.mono (within_st (n := 1) hs 1 sz (xs := [cap]) rfl (Reads.blk 0 rfl) (by decide) W3.out) ?_; clear hs; rintro e w ⟨rfl, hs⟩) | (go_at_call 32; refine Calls.mono (within_st (n := 2) hs 0 n (xs := [mo,ma]) rfl (Reads.blk 0 rfl) (by decide) W4.out) ?_; clear hs; rintro e w ⟨rfl, hs⟩))
 go_ret2
 exact ⟨rfl, hs.drop.drop.drop.drop.drop⟩
theorem ocs_rep (k : Nat) (x : Zn) : (List.replicate k (oc x)).flatten = ocs (List.replicate k x) := by
 simp [ocs, List.flatMap]
theorem new_yes (hs : St w0 X L w) {c : Cf} (h : okC c.n c.sz c.cap c.mo c.ma = true) :
  Calls Try.prog 9 #[.agg #[iv c.n, iv c.sz, iv c.cap, iv c.mo, iv c.ma]] w fun e w' => ∃ g a r, e = .returned (.tuple #[.pointer (some ⟨g, 0, none⟩), iv 0]) ∧ St w0 X (pZ g (newZ c) (some a) c.n :: pL r (some a) c.n (newZ c) :: L) w' := by
 obtain ⟨C, hC⟩ : ∃ C, C = cl c := ⟨_, rfl⟩
 obtain ⟨k, hk⟩ : ∃ n, n = c.n := ⟨_, rfl⟩
 obtain ⟨n, hn⟩ : ∃ n : Int, n = (c.n : Int) := ⟨_, rfl⟩
 obtain ⟨sz, hsz⟩ : ∃ n : Int, n = (c.sz : Int) := ⟨_, rfl⟩
 obtain ⟨cap, hcap⟩ : ∃ n : Int, n = (c.cap : Int) := ⟨_, rfl⟩
 obtain ⟨mo, hmo⟩ : ∃ n : Int, n = (c.mo : Int) := ⟨_, rfl⟩
 obtain ⟨ma, hma⟩ : ∃ n : Int, n = (c.ma : Int) := ⟨_, rfl⟩
 have R0 := Lib.hid (show C[0]? = some (.int .i64 (k : Int)) by rw [hC, hk]; rfl)
 have R1 := Lib.hid (show C[1]? = some (.int .i64 sz) by rw [hC, hsz]; rfl)
 have R2 := Lib.hid (show C[2]? = some (.int .i64 cap) by rw [hC, hcap]; rfl)
 have R3 := Lib.hid (show C[3]? = some (.int .i64 mo) by rw [hC, hmo]; rfl)
 have R4 := Lib.hid (show C[4]? = some (.int .i64 ma) by rw [hC, hma]; rfl)
 have CL := Lib.hid (show C.length = 5 by rw [hC]; rfl)
 have hC2 : #[iv c.n, iv c.sz, iv c.cap, iv c.mo, iv c.ma] = C.toArray := by rw [hC]; rfl
 have BO : Hid (∀ w : World, (Instr.build 80 #[(0, iv 1)]).run Try.prog w = .ok (.agg (oc dz).toArray) w) := Lib.hid (fun w => by kernel_rfl)
 obtain ⟨ZL, hZL⟩ : ∃ Z : Nat → List Value, Z = fun g => C ++ [.slice (some ⟨g, 0, none⟩) k k, iv 0] := ⟨_, rfl⟩
 have BZ : Hid (∀ (g : Nat) (w : World), (Instr.build 71 #[(0, .agg C.toArray), (1, .slice (some ⟨g, 0, none⟩) k k)]).run Try.prog w = .ok (.agg (ZL g).toArray) w) := Lib.hid (fun g w => by rw [hZL, hC]; kernel_rfl)
 rw [hC2]
 simp only [okC, decide_eq_true_eq] at h
 have hk1 : 1 ≤ k := by omega
 have hk2 : k ≤ 4096 := by omega
 have CR : Hid (∀ (A : Option Addr) (L : List At) (w : World), St w0 X L w → Reads L A (oc dz) → Calls Try.prog 33 #[.slice A 1 1, .int .i64 (k : Int)] w fun e w' => ∃ g, e = .returned (.slice (some ⟨g, 0, none⟩) k k) ∧ St w0 X (.own 3 (some g) (some ⟨g, 0, none⟩) k k (ocs (List.replicate k dz)) :: L) w') := Lib.hid (fun A L w hs hr => by
  rw [← ocs_rep]
  exact repeat_st hs (oc dz) rfl (oc_one dz) hr k hk1 hk2)
 have FIN : Hid (∀ (G1 g55 g50 g53 : Nat) (w : World), St w0 X (.blk g55 71 (ZL g53) :: .own 3 (some g53) (some ⟨g53, 0, none⟩) k k (ocs (List.replicate k dz)) :: .blk g50 80 (oc dz) :: .blk G1 24 C :: L) w → ∃ g a r, Ending.returned (.tuple #[.pointer (some ⟨g55, 0, none⟩), iv 0]) = .returned (.tuple #[.pointer (some ⟨g, 0, none⟩), iv 0]) ∧ St w0 X (pZ g (newZ c) (some a) c.n :: pL r (some a) c.n (newZ c) :: L) w) := Lib.hid (fun G1 g55 g50 g53 w hs => by
  have e1 : pZ g55 (newZ c) (some ⟨g53, 0, none⟩) c.n = .blk g55 71 (ZL g53) := by
   rw [hZL, hC, hk]; unfold pZ zcl newZ; dsimp only; rw [List.length_replicate]
  have e2 : pL (some g53) (some ⟨g53, 0, none⟩) c.n (newZ c) = .own 3 (some g53) (some ⟨g53, 0, none⟩) k k (ocs (List.replicate k dz)) := by
   rw [hk]; unfold pL newZ; dsimp only; rw [List.length_replicate]
  refine ⟨g55, ⟨g53, 0, none⟩, some g53, rfl, ?_⟩
  rw [e1, e2]
  exact hs.sub (List.Sublist.cons_cons _ (List.Sublist.cons_cons _ (.cons _ (.cons _ (List.Sublist.refl _))))))
 have W1 := Lib.hid (show [(k : Int)].all (fun x => decide ((1 : Int) ≤ x ∧ x ≤ 4096)) = true by simp <;> omega)
 have W2 := Lib.hid (show [sz].all (fun x => decide ((1 : Int) ≤ x ∧ x ≤ 65536)) = true by simp <;> omega)
 have W3 := Lib.hid (show [cap].all (fun x => decide ((1 : Int) ≤ x ∧ x ≤ sz)) = true by simp <;> omega)
 have W4 := Lib.hid (show [mo, ma].all (fun x => decide ((0 : Int) ≤ x ∧ x ≤ (k : Int))) = true by simp <;> omega)
 have hmm : ¬ (0 < ma ∧ ma < mo) := by omega
 clear hC hC2 hk hn hsz hcap hmo hma h hZL
 by_cases hma0 : 0 < ma
 ·have d1 : decide (0 < ma) = true := by simp; omega
  have d2 : decide (ma < mo) = false := by simp; omega
  clear hmm hma0
  go_enter Try.func9, Try.ntmps9
  go_upto_region 3 with (first | ((with_reducible refine Se.isL (o := ⟨some 5, _, _, _, _, _⟩) ?_); (refine Se.toL rfl (Se.ld (o := ⟨some 5, _, _, _, _, _⟩) hs rfl rfl (Cell.blk 0 rfl R0.out) (by kernel_rfl) ?_))) | ((with_reducible refine Se.isL (o := ⟨some 6, _, _, _, _, _⟩) ?_); (refine Se.toL rfl (Se.bsv (o := ⟨some 6, _, _, _, _, _⟩) hs rfl Try.underlying106 inti rfl ([.int .i64 (k : Int)]) (by rfl) (by rfl) (by decide) (by decide) (by simp [Value.oneCell']) ?_); clear hs; rintro w g6 - hs)) | ((with_reducible refine Se.isL (o := ⟨some 11, _, _, _, _, _⟩) ?_); (refine Se.toL rfl (Se.ld (o := ⟨some 11, _, _, _, _, _⟩) hs rfl rfl (Cell.blk 1 rfl R1.out) (by kernel_rfl) ?_))) | ((with_reducible refine Se.isL (o := ⟨some 12, _, _, _, _, _⟩) ?_); (refine Se.toL rfl (Se.bsv (o := ⟨some 12, _, _, _, _, _⟩) hs rfl Try.underlying106 inti rfl ([.int .i64 sz]) (by rfl) (by rfl) (by decide) (by decide) (by simp [Value.oneCell']) ?_); clear hs; rintro w g12 - hs)) | ((with_reducible refine Se.isL (o := ⟨some 18, _, _, _, _, _⟩) ?_); (refine Se.toL rfl (Se.ld (o := ⟨some 18, _, _, _, _, _⟩) hs rfl rfl (Cell.blk 2 rfl R1.out) (by kernel_rfl) ?_))) | ((with_reducible refine Se.isL (o := ⟨some 20, _, _, _, _, _⟩) ?_); (refine Se.toL rfl (Se.ld (o := ⟨some 20, _, _, _, _, _⟩) hs rfl rfl (Cell.blk 2 rfl R2.out) (by kernel_rfl) ?_))) | ((with_reducible refine Se.isL (o := ⟨some 21, _, _, _, _, _⟩) ?_); (refine Se.toL rfl (Se.bsv (o := ⟨some 21, _, _, _, _, _⟩) hs rfl Try.underlying106 inti rfl ([.int .i64 cap]) (by rfl) (by rfl) (by decide) (by decide) (by simp [Value.oneCell']) ?_); clear hs; rintro w g21 - hs)) | ((with_reducible refine Se.isL (o := ⟨some 27, _, _, _, _, _⟩) ?_); (refine Se.toL rfl (Se.ld (o := ⟨some 27, _, _, _, _, _⟩) hs rfl rfl (Cell.blk 3 rfl R0.out) (by kernel_rfl) ?_))) | ((with_reducible refine Se.isL (o := ⟨some 29, _, _, _, _, _⟩) ?_); (refine Se.toL rfl (Se.ld (o := ⟨some 29, _, _, _, _, _⟩) hs rfl rfl (Cell.blk 3 rfl R3.out) (by kernel_rfl) ?_))) | ((with_reducible refine Se.isL (o := ⟨some 31, _, _, _, _, _⟩) ?_); (refine Se.toL rfl (Se.ld (o := ⟨some 31, _, _, _, _, _⟩) hs rfl rfl (Cell.blk 3 rfl R4.out) (by kernel_rfl) ?_))) | ((with_reducible refine Se.isL (o := ⟨some 32, _, _, _, _, _⟩) ?_); (refine Se.toL rfl (Se.bsv (o := ⟨some 32, _, _, _, _, _⟩) hs rfl Try.underlying106 inti rfl ([.int .i64 mo, .int .i64 ma]) (by rfl) (by rfl) (by decide) (by decide) (by simp [Value.oneCell']) ?_); clear hs; rintro w g32 - hs)) | ((with_reducible refine Se.isL (o := ⟨some 38, _, _, _, _, _⟩) ?_); (refine Se.toL rfl (Se.ld (o := ⟨some 38, _, _, _, _, _⟩) hs rfl rfl (Cell.blk 4 rfl R4.out) (by kernel_rfl) ?_))) | ((with_reducible refine Se.isL (o := ⟨some 42, _, _, _, _, _⟩) ?_); (refine Se.toL rfl (Se.ld (o := ⟨some 42, _, _, _, _, _⟩) hs rfl rfl (Cell.blk 4 rfl R3.out) (by kernel_rfl) ?_))) | ((with_reducible refine Se.isL (o := ⟨some 44, _, _, _, _, _⟩) ?_); (refine Se.toL rfl (Se.ld (o := ⟨some 44, _, _, _, _, _⟩) hs rfl rfl (Cell.blk 4 rfl R4.out) (by kernel_rfl) ?_))) | ((first | with_reducible refine Se.ab hs ?_ | with_reducible refine Se.abc hs ?_); clear hs; (first | (generalize w.heap.size = g1; intro w hs))) | (go_at_call 32; refine Calls.mono (within_st (n := 1) hs 1 4096 (xs := [(k : Int)]) rfl (Reads.blk 0 rfl) (by decide) W1.out) ?_; clear hs; rintro e w ⟨rfl, hs⟩) | (go_at_call 32; refine Calls.mono (within_st (n := 1) hs 1 65536 (xs := [sz]) rfl (Reads.blk 0 rfl) (by decide) W2.out) ?_; clear hs; rintro e w ⟨rfl, hs⟩) | (go_at_call 32; refine Calls.mono (within_st (n := 1) hs 1 sz (xs := [cap]) rfl (Reads.blk 0 rfl) (by decide) W3.out) ?_; clear hs; rintro e w ⟨rfl, hs⟩) | (go_at_call 32; refine Calls.mono (within_st (n := 2) hs 0 (k : Int) (xs := [mo,ma]) rfl (Reads.blk 0 rfl) (by decide) W4.out) ?_; clear hs; rintro e w ⟨rfl, hs⟩))
  replace hs := hs.drop.drop.drop.drop
  clear W1 W2 W3 W4
  refine Ch.region' 10 (fun wx => Blk wx g1 C 24) (fun | 2 => true | 5 => true | 7 => true | _ => false) (by kernel_rfl) (by decide +kernel) (hs.drew.hold (.blk g1 24 C) (by simp)) ?_
  replace hs := hs.drew
  generalize w.drew = w at hs ⊢
  change Ch.CW _ _ _ _ _ [0, 1, 2, 3, 4, 5, 6, 7, 8, 9] _ _
  refine Ch.pure (v := .agg C.toArray) (by rfl) (by rfl) (by rfl) (fun wx hS => Se.xla rfl rfl (Li.Rd.of_blk hS) (by rw [CL.out] <;> kernel_rfl) (by kernel_rfl)) ?_
  (try simp only [Act.put, List.setIfInBounds_toArray, List.set_cons_zero, List.set_cons_succ])
  refine Ch.pure (v := .agg (oc dz).toArray) (by rfl) (by rfl) (by rfl) (fun wx hS => xbd rfl (vs := [(0, iv 1)]) rfl (BO.out _)) ?_
  (try simp only [Act.put, List.setIfInBounds_toArray, List.set_cons_zero, List.set_cons_succ])
  refine Ch.noise (by rfl) (by rfl) (by rfl) (Se.bs1 hs rfl Try.underlying69 one_i (by decide) (by decide) rfl rfl ?_)
  clear hs
  rintro w g50 - hs
  refine ⟨hs.hold (.blk g1 24 C) (by simp), ?_⟩
  (try simp only [Act.put, List.setIfInBounds_toArray, List.set_cons_zero, List.set_cons_succ])
  iterate 2 ((first | (refine Ch.pure (v := ?_) (by rfl) (by rfl) (by rfl) (fun wx hS => ?_) ?_; rotate_left; (focus (go_simp; (first | done | with_reducible rfl)))) | refine Ch.pure (v := _) (by rfl) (by rfl) (by rfl) (fun wx hS => Se.xl rfl rfl (by rw [hS.cell]; exact R0.out) (by decide +kernel)) ?_); (try simp only [Act.put, List.setIfInBounds_toArray, List.set_cons_zero, List.set_cons_succ]))
  refine Ch.noise (by rfl) (by rfl) (by rfl) ?_
  refine Se.gcall (f := 33) (args := #[.slice (some ⟨g50, 0, none⟩) 1 1, .int .i64 (k : Int)]) ?_ ?_
  ·go_simp
  refine Calls.mono (CR.out _ _ _ hs (Reads.blk 0 rfl)) ?_
  clear hs
  rintro e w ⟨g53, rfl, hs⟩
  refine ⟨_, rfl, hs.hold (.blk g1 24 C) (by simp), ?_⟩
  (try simp only [Act.put, List.setIfInBounds_toArray, List.set_cons_zero, List.set_cons_succ])
  refine Ch.pure (v := .agg (ZL g53).toArray) (by rfl) (by rfl) (by rfl) (fun wx hS => xbd rfl (vs := [(0, .agg C.toArray), (1, .slice (some ⟨g53, 0, none⟩) k k)]) rfl (BZ.out _ _)) ?_
  (try simp only [Act.put, List.setIfInBounds_toArray, List.set_cons_zero, List.set_cons_succ])
  refine Ch.noise (by rfl) (by rfl) (by rfl) (Se.bx hs rfl rfl (l := ZL g53) rfl ?_)
  clear hs
  rintro w g55 - hs
  refine ⟨hs.hold (.blk g1 24 C) (by simp), ?_⟩
  (try simp only [Act.put, List.setIfInBounds_toArray, List.set_cons_zero, List.set_cons_succ])
  iterate 2 ((first | (refine Ch.pure (v := ?_) (by rfl) (by rfl) (by rfl) (fun wx hS => ?_) ?_; rotate_left; (focus (go_simp; (first | done | with_reducible rfl))))); (try simp only [Act.put, List.setIfInBounds_toArray, List.set_cons_zero, List.set_cons_succ]))
  refine Ch.done ?_
  try simp only [List.drop_succ_cons, List.drop_zero]
  go_wp2_with fail
  go_ret2
  exact FIN.out _ _ _ _ _ hs
 ·have d1 : decide (0 < ma) = false := by simp; omega
  clear hmm hma0
  go_enter Try.func9, Try.ntmps9
  go_upto_region 3 with (first | ((with_reducible refine Se.isL (o := ⟨some 5, _, _, _, _, _⟩) ?_); (refine Se.toL rfl (Se.ld (o := ⟨some 5, _, _, _, _, _⟩) hs rfl rfl (Cell.blk 0 rfl R0.out) (by kernel_rfl) ?_))) | ((with_reducible refine Se.isL (o := ⟨some 6, _, _, _, _, _⟩) ?_); (refine Se.toL rfl (Se.bsv (o := ⟨some 6, _, _, _, _, _⟩) hs rfl Try.underlying106 inti rfl ([.int .i64 (k : Int)]) (by rfl) (by rfl) (by decide) (by decide) (by simp [Value.oneCell']) ?_); clear hs; rintro w g6 - hs)) | ((with_reducible refine Se.isL (o := ⟨some 11, _, _, _, _, _⟩) ?_); (refine Se.toL rfl (Se.ld (o := ⟨some 11, _, _, _, _, _⟩) hs rfl rfl (Cell.blk 1 rfl R1.out) (by kernel_rfl) ?_))) | ((with_reducible refine Se.isL (o := ⟨some 12, _, _, _, _, _⟩) ?_); (refine Se.toL rfl (Se.bsv (o := ⟨some 12, _, _, _, _, _⟩) hs rfl Try.underlying106 inti rfl ([.int .i64 sz]) (by rfl) (by rfl) (by decide) (by decide) (by simp [Value.oneCell']) ?_); clear hs; rintro w g12 - hs)) | ((with_reducible refine Se.isL (o := ⟨some 18, _, _, _, _, _⟩) ?_); (refine Se.toL rfl (Se.ld (o := ⟨some 18, _, _, _, _, _⟩) hs rfl rfl (Cell.blk 2 rfl R1.out) (by kernel_rfl) ?_))) | ((with_reducible refine Se.isL (o := ⟨some 20, _, _, _, _, _⟩) ?_); (refine Se.toL rfl (Se.ld (o := ⟨some 20, _, _, _, _, _⟩) hs rfl rfl (Cell.blk 2 rfl R2.out) (by kernel_rfl) ?_))) | ((with_reducible refine Se.isL (o := ⟨some 21, _, _, _, _, _⟩) ?_); (refine Se.toL rfl (Se.bsv (o := ⟨some 21, _, _, _, _, _⟩) hs rfl Try.underlying106 inti rfl ([.int .i64 cap]) (by rfl) (by rfl) (by decide) (by decide) (by simp [Value.oneCell']) ?_); clear hs; rintro w g21 - hs)) | ((with_reducible refine Se.isL (o := ⟨some 27, _, _, _, _, _⟩) ?_); (refine Se.toL rfl (Se.ld (o := ⟨some 27, _, _, _, _, _⟩) hs rfl rfl (Cell.blk 3 rfl R0.out) (by kernel_rfl) ?_))) | ((with_reducible refine Se.isL (o := ⟨some 29, _, _, _, _, _⟩) ?_); (refine Se.toL rfl (Se.ld (o := ⟨some 29, _, _, _, _, _⟩) hs rfl rfl (Cell.blk 3 rfl R3.out) (by kernel_rfl) ?_))) | ((with_reducible refine Se.isL (o := ⟨some 31, _, _, _, _, _⟩) ?_); (refine Se.toL rfl (Se.ld (o := ⟨some 31, _, _, _, _, _⟩) hs rfl rfl (Cell.blk 3 rfl R4.out) (by kernel_rfl) ?_))) | ((with_reducible refine Se.isL (o := ⟨some 32, _, _, _, _, _⟩) ?_); (refine Se.toL rfl (Se.bsv (o := ⟨some 32, _, _, _, _, _⟩) hs rfl Try.underlying106 inti rfl ([.int .i64 mo, .int .i64 ma]) (by rfl) (by rfl) (by decide) (by decide) (by simp [Value.oneCell']) ?_); clear hs; rintro w g32 - hs)) | ((with_reducible refine Se.isL (o := ⟨some 38, _, _, _, _, _⟩) ?_); (refine Se.toL rfl (Se.ld (o := ⟨some 38, _, _, _, _, _⟩) hs rfl rfl (Cell.blk 4 rfl R4.out) (by kernel_rfl) ?_))) | ((first | with_reducible refine Se.ab hs ?_ | with_reducible refine Se.abc hs ?_); clear hs; (first | (generalize w.heap.size = g1; intro w hs))) | (go_at_call 32; refine Calls.mono (within_st (n := 1) hs 1 4096 (xs := [(k : Int)]) rfl (Reads.blk 0 rfl) (by decide) W1.out) ?_; clear hs; rintro e w ⟨rfl, hs⟩) | (go_at_call 32; refine Calls.mono (within_st (n := 1) hs 1 65536 (xs := [sz]) rfl (Reads.blk 0 rfl) (by decide) W2.out) ?_; clear hs; rintro e w ⟨rfl, hs⟩) | (go_at_call 32; refine Calls.mono (within_st (n := 1) hs 1 sz (xs := [cap]) rfl (Reads.blk 0 rfl) (by decide) W3.out) ?_; clear hs; rintro e w ⟨rfl, hs⟩) | (go_at_call 32; refine Calls.mono (within_st (n := 2) hs 0 (k : Int) (xs := [mo,ma]) rfl (Reads.blk 0 rfl) (by decide) W4.out) ?_; clear hs; rintro e w ⟨rfl, hs⟩))
  replace hs := hs.drop.drop.drop.drop
  clear W1 W2 W3 W4
  refine Ch.region' 10 (fun wx => Blk wx g1 C 24) (fun | 2 => true | 5 => true | 7 => true | _ => false) (by kernel_rfl) (by decide +kernel) (hs.drew.hold (.blk g1 24 C) (by simp)) ?_
  replace hs := hs.drew
  generalize w.drew = w at hs ⊢
  change Ch.CW _ _ _ _ _ [0, 1, 2, 3, 4, 5, 6, 7, 8, 9] _ _
  refine Ch.pure (v := .agg C.toArray) (by rfl) (by rfl) (by rfl) (fun wx hS => Se.xla rfl rfl (Li.Rd.of_blk hS) (by rw [CL.out] <;> kernel_rfl) (by kernel_rfl)) ?_
  (try simp only [Act.put, List.setIfInBounds_toArray, List.set_cons_zero, List.set_cons_succ])
  refine Ch.pure (v := .agg (oc dz).toArray) (by rfl) (by rfl) (by rfl) (fun wx hS => xbd rfl (vs := [(0, iv 1)]) rfl (BO.out _)) ?_
  (try simp only [Act.put, List.setIfInBounds_toArray, List.set_cons_zero, List.set_cons_succ])
  refine Ch.noise (by rfl) (by rfl) (by rfl) (Se.bs1 hs rfl Try.underlying69 one_i (by decide) (by decide) rfl rfl ?_)
  clear hs
  rintro w g50 - hs
  refine ⟨hs.hold (.blk g1 24 C) (by simp), ?_⟩
  (try simp only [Act.put, List.setIfInBounds_toArray, List.set_cons_zero, List.set_cons_succ])
  iterate 2 ((first | (refine Ch.pure (v := ?_) (by rfl) (by rfl) (by rfl) (fun wx hS => ?_) ?_; rotate_left; (focus (go_simp; (first | done | with_reducible rfl)))) | refine Ch.pure (v := _) (by rfl) (by rfl) (by rfl) (fun wx hS => Se.xl rfl rfl (by rw [hS.cell]; exact R0.out) (by decide +kernel)) ?_); (try simp only [Act.put, List.setIfInBounds_toArray, List.set_cons_zero, List.set_cons_succ]))
  refine Ch.noise (by rfl) (by rfl) (by rfl) ?_
  refine Se.gcall (f := 33) (args := #[.slice (some ⟨g50, 0, none⟩) 1 1, .int .i64 (k : Int)]) ?_ ?_
  ·go_simp
  refine Calls.mono (CR.out _ _ _ hs (Reads.blk 0 rfl)) ?_
  clear hs
  rintro e w ⟨g53, rfl, hs⟩
  refine ⟨_, rfl, hs.hold (.blk g1 24 C) (by simp), ?_⟩
  (try simp only [Act.put, List.setIfInBounds_toArray, List.set_cons_zero, List.set_cons_succ])
  refine Ch.pure (v := .agg (ZL g53).toArray) (by rfl) (by rfl) (by rfl) (fun wx hS => xbd rfl (vs := [(0, .agg C.toArray), (1, .slice (some ⟨g53, 0, none⟩) k k)]) rfl (BZ.out _ _)) ?_
  (try simp only [Act.put, List.setIfInBounds_toArray, List.set_cons_zero, List.set_cons_succ])
  refine Ch.noise (by rfl) (by rfl) (by rfl) (Se.bx hs rfl rfl (l := ZL g53) rfl ?_)
  clear hs
  rintro w g55 - hs
  refine ⟨hs.hold (.blk g1 24 C) (by simp), ?_⟩
  (try simp only [Act.put, List.setIfInBounds_toArray, List.set_cons_zero, List.set_cons_succ])
  iterate 2 ((first | (refine Ch.pure (v := ?_) (by rfl) (by rfl) (by rfl) (fun wx hS => ?_) ?_; rotate_left; (focus (go_simp; (first | done | with_reducible rfl))))); (try simp only [Act.put, List.setIfInBounds_toArray, List.set_cons_zero, List.set_cons_succ]))
  refine Ch.done ?_
  try simp only [List.drop_succ_cons, List.drop_zero]
  go_wp2_with fail
  go_ret2
  exact FIN.out _ _ _ _ _ hs
end Zo
end Go.Proofs.Ythpgkkfahiglnaa


/- Layer 45: slices.Repeat and New. -/
import Derived.Test.YtplhelhijjmlaaaPathRRoute
import Derived.Test.YtplhelhijjmlaaaMul
import Derived.Test.YtplhelhijjmlaaaSepMore2
import Derived.IntWalk
set_option linter.unusedSimpArgs false
set_option linter.unusedVariables false
namespace Go.Proofs.Ytplhelhijjmlaaa
open Go Go.RowKit
namespace Pa
open Se (St At Reads Cell)
variable {w0 w : World} {X : List Nat} {L : List At} {A : Option Addr} {c : Nat} {p : PP}
/-- The first m of n elements are filled. -/
def fl (xs Z : List Value) (m : Nat) : List Value := (List.replicate m xs).flatten ++ Z.drop (m * xs.length)
theorem rep_len (xs : List Value) (m : Nat) : (List.replicate m xs).flatten.length = m * xs.length := by simp [List.length_flatten]
theorem rep_take (xs : List Value) {m q : Nat} (h : q ≤ m) : (List.replicate m xs).flatten.take (q * xs.length) = (List.replicate q xs).flatten := by
  obtain ⟨r, rfl⟩ : ∃ r, m = q + r := ⟨m - q, by omega⟩
  rw [← List.replicate_append_replicate, List.flatten_append, List.take_append_of_le_length (by rw [rep_len]; exact Nat.le_refl _), List.take_of_length_le (by rw [rep_len]; exact Nat.le_refl _)]
theorem fl_copy (xs Z : List Value) {m q : Nat} (h : q ≤ m) : (fl xs Z m).take (m * xs.length) ++ ((List.replicate m xs).flatten.take (q * xs.length) ++ (fl xs Z m).drop (m * xs.length + q * xs.length)) = fl xs Z (m + q) := by
  have h1 : (fl xs Z m).take (m * xs.length) = (List.replicate m xs).flatten := by
    unfold fl; rw [List.take_append_of_le_length (by rw [rep_len]; exact Nat.le_refl _), List.take_of_length_le (by rw [rep_len]; exact Nat.le_refl _)]
  rw [h1, rep_take xs h]
  unfold fl
  rw [List.drop_append, List.drop_eq_nil_of_le (by rw [rep_len]; omega), List.nil_append, rep_len, List.drop_drop, ← List.append_assoc, ← List.flatten_append, List.replicate_append_replicate]
  congr 2
  rw [Nat.add_mul]; omega
theorem fl_len (xs Z : List Value) {n m : Nat} (hZ : Z.length = n * xs.length) (h : m ≤ n) : (fl xs Z m).length = n * xs.length := by
  have : m * xs.length ≤ n * xs.length := Nat.mul_le_mul_right _ h
  unfold fl; rw [List.length_append, rep_len, List.length_drop, hZ]; omega
theorem fl_read (xs Z : List Value) {m : Nat} : (fl xs Z m).take (m * xs.length) = (List.replicate m xs).flatten := by
  unfold fl; rw [List.take_append_of_le_length (by rw [rep_len]; exact Nat.le_refl _), List.take_of_length_le (by rw [rep_len]; exact Nat.le_refl _)]
theorem rep_one {xs : List Value} (h : ∀ v ∈ xs, v.oneCell' = true) (m : Nat) : ∀ v ∈ (List.replicate m xs).flatten, v.oneCell' = true := by
  intro v hv
  simp only [List.mem_flatten, List.mem_replicate] at hv
  obtain ⟨l, ⟨_, rfl⟩, hv⟩ := hv
  exact h v hv
theorem iOne : ∃ z, (Try.prog.info? 84).map (fun i => (i.zero, i.size, i.bytes)) = some (some z, 131, 1048) ∧ z.cells.size = 131 := info_ex (by decide +kernel)
set_option maxRecDepth 100000 in
set_option maxHeartbeats 4000000 in
theorem repeat_st (hs : St w0 X L w) (xs : List Value) (hl : xs.length = 131) (h1 : ∀ v ∈ xs, v.oneCell' = true) (hr : Reads L A xs) (n : Nat) (hn1 : 1 ≤ n) (hn2 : n ≤ 32) :
    Calls Try.prog 33 #[.slice A 1 1, .int .i64 n] w fun e w' => ∃ g, e = .returned (.slice (some ⟨g, 0, none⟩) n n) ∧ St w0 X (.own 131 (some g) (some ⟨g, 0, none⟩) n n (List.replicate n xs).flatten :: L) w' := by
  have HL := Lib.hid hl
  have H1 := Lib.hid h1
  have HR := Lib.hid hr
  have HM := Lib.hid (fun w => Mu.mul_one n (by omega) w)
  obtain ⟨z, hz1, hz2⟩ := iOne
  have Z1 := Lib.hid hz1
  obtain ⟨Z, hZ⟩ : ∃ Z, Z = (List.replicate n z.cells.toList).flatten := ⟨_, rfl⟩
  have ZL := Lib.hid (show Z.length = n * 131 by rw [hZ, rep_len]; simp [hz2])
  have HZ := Lib.hid hZ
  have Z2 := Lib.hid hz2
  have hZ2 : Z.length = n * xs.length := by rw [ZL.out, hl]
  have FL := Lib.hid (fun m (h : m ≤ n) => show (fl xs Z m).length = n * 131 by rw [← hl]; exact fl_len xs Z hZ2 h)
  have F1 := Lib.hid (show Z.take 0 ++ (xs.take (1 * 131) ++ Z.drop (0 + 1 * 131)) = fl xs Z 1 by
    have := fl_copy xs Z (m := 0) (q := 0) (Nat.le_refl _)
    rw [List.take_zero, List.nil_append, List.take_of_length_le (by omega)]
    unfold fl; simp [hl])
  have FC := Lib.hid (fun (m q : Nat) (h : q ≤ m) => show (fl xs Z m).take (m * 131) ++ ((List.replicate m xs).flatten.take (q * 131) ++ (fl xs Z m).drop (m * 131 + q * 131)) = fl xs Z (m + q) by
    have := fl_copy xs Z h
    rwa [hl] at this)
  have FR := Lib.hid (fun (m : Nat) => show (fl xs Z m).take (m * 131) = (List.replicate m xs).flatten by
    have := fl_read xs Z (m := m)
    rwa [hl] at this)
  have FM := Lib.hid (fun (m : Nat) => show ((List.replicate m xs).flatten).length = m * 131 by rw [rep_len, hl])
  have hfl := Lib.hid (show (fl xs Z n) = (List.replicate n xs).flatten by unfold fl; rw [List.drop_eq_nil_of_le (by omega), List.append_nil])
  clear hl h1 hr hz1 hz2 hZ hZ2
  go_enter Try.func33, Try.ntmps33
  go_wp2_with (first | (go_at_call 56; refine Calls.mono (HM.out _) ?_; rintro e w' ⟨rfl, rfl⟩) | ((with_reducible refine Se.isL (o := ⟨some 30, _, _, _, _, _⟩) ?_); refine Se.toL rfl (Se.mk (o := ⟨some 30, _, _, _, _, _⟩) hs rfl Try.underlying72 Z1.out Z2.out n n rfl rfl rfl rfl (Nat.le_refl _) (by omega) (by omega) ?_); clear hs; rintro w g30 - hs; rw [← HZ.out] at hs) | ((with_reducible refine Se.isL (o := ⟨some 33, _, _, _, _, _⟩) ?_); refine Se.toL rfl (Se.cpr (o := ⟨some 33, _, _, _, _, _⟩) 0 hs rfl rfl rfl rfl (HR.out.cons _) Try.underlying72 (by kernel_rfl) H1.out (by rw [HL.out]) (by rw [ZL.out, Nat.zero_add]; exact Nat.le_refl _) (by omega) (by decide) (by decide) (q := 1) (Nat.min_eq_left hn1) F1.out ?_); clear hs; intro w hs; simp only [List.set_cons_zero] at hs))
  go_loopg [8] (n - 1) (fun gh s8 wr => ∃ m : Nat, gh = n - m ∧ 1 ≤ m ∧ m ≤ n ∧ s8 = .int .i64 m ∧ St w0 X (.blk g30 84 (fl xs Z m) :: L) wr)
  case atStart => exact ⟨1, rfl, Nat.le_refl _, hn1, rfl, hs⟩
  case round =>
    clear hs
    rename World => w
    obtain ⟨m, rfl, hm1, hm2, rfl, hs⟩ := hrel
    by_cases hlt : m < n
    · have hlt' : (m : Int) < (n : Int) := by omega
      obtain ⟨q, hq⟩ : ∃ q, Nat.min m (n - m) = q := ⟨_, rfl⟩
      have hqm : q ≤ m := by rw [← hq]; exact Nat.min_le_left _ _
      have hqn : q ≤ n - m := by rw [← hq]; exact Nat.min_le_right _ _
      have hq1 : 1 ≤ q := by rw [← hq]; exact Nat.le_min.2 ⟨hm1, by omega⟩
      have HQ := Lib.hid hq
      have hnm : ¬ n = m := by omega
      have hmq : (m : Int) + (q : Int) ≤ n := by omega
      clear hq
      go_upto_region 9 with (fail)
      refine Ch.region' 10 (fun _ => True) (fun | 7 => true | _ => false) (by kernel_rfl) (by decide +kernel) (trivial) ?_
      replace hs := hs.drew
      generalize w.drew = w at hs ⊢
      change Ch.CW _ _ _ _ _ [0, 1, 2, 3, 4, 5, 6, 7, 8, 9] _ _
      iterate 7 (refine Ch.pure (v := ?_) (by rfl) (by rfl) (by rfl) (fun wx hS => ?_) ?_; rotate_left; (focus (go_simp; (first | done | with_reducible rfl))); (try simp only [Act.put, List.setIfInBounds_toArray, List.set_cons_zero, List.set_cons_succ]))
      refine Ch.noise (by rfl) (by rfl) (by rfl) (Se.cpr 0 hs rfl rfl rfl rfl (by rw [← FR.out m]; exact (Reads.blk 0 rfl).take _) Try.underlying72 (by kernel_rfl) (rep_one H1.out m) (FM.out m) (by rw [FL.out m hm2, ← Nat.add_mul, Nat.add_sub_cancel' hm2]; exact Nat.le_refl _) (by omega) (by omega) (by decide) HQ.out (FC.out m q hqm) ?_)
      clear hs
      intro w hs
      refine ⟨trivial, ?_⟩
      simp only [List.set_cons_zero] at hs
      (try simp only [Act.put, List.setIfInBounds_toArray, List.set_cons_zero, List.set_cons_succ])
      iterate 2 (refine Ch.pure (v := ?_) (by rfl) (by rfl) (by rfl) (fun wx hS => ?_) ?_; rotate_left; (focus (go_simp; (first | done | with_reducible rfl))); (try simp only [Act.put, List.setIfInBounds_toArray, List.set_cons_zero, List.set_cons_succ]))
      refine Ch.done ?_
      simp only [List.drop_succ_cons, List.drop_zero]
      go_wp2_with fail
      go_roundg (n - (m + q))
      case measure => omega
      case rel => exact ⟨m + q, rfl, by omega, by omega, by rw [IntWalk.i64_in _ (by omega)]; go_num, hs⟩
    · obtain rfl : m = n := by omega
      rw [hfl.out] at hs
      have hs := hs.blk_own 131 m m (by rw [FM.out m]; exact Nat.le_refl _) (Nat.le_refl _) (by unfold maxLen; omega)
      rw [List.take_of_length_le (by rw [FM.out m]; exact Nat.le_refl _)] at hs
      go_wp2_with fail
      go_ret
      exact ⟨_, rfl, hs⟩
/-- What the program's New makes: every state is 1, also that of group 0. -/
def one1 : PS := ⟨true, 0, List.replicate 129 1⟩
def newP1 (n t : Int) : Option PP := if 1 ≤ n ∧ n ≤ 32 ∧ 1 ≤ t ∧ t ≤ 256 then some ⟨t, List.replicate n.toNat one1⟩ else none
def fil (k : Nat) : List Value := .bool true :: .int .i64 0 :: (List.replicate k (Value.int .i64 1) ++ List.replicate (129 - k) (Value.int .i64 0))
theorem build_fil (w : World) : (Instr.build 84 #[(0, .agg #[.bool true, .int .i64 0])]).run Try.prog w = .ok (.agg (fil 0).toArray) w := by kernel_rfl
theorem fil_len {k : Nat} (h : k ≤ 129) : (fil k).length = 131 := by simp [fil]; omega
theorem fil_set {k : Nat} (h : k < 129) : (fil k).set (2 + k) (.int .i64 1) = fil (k + 1) := by
  rw [Nat.add_comm 2]
  simp only [fil, List.set_cons_succ]
  rw [List.set_append_right _ _ (by simp), List.length_replicate, Nat.sub_self]
  obtain ⟨m, hm⟩ : ∃ m, 129 - k = m + 1 := ⟨128 - k, by omega⟩
  rw [hm, show 129 - (k + 1) = m by omega, List.replicate_succ, List.set_cons_zero, List.replicate_succ', List.append_assoc]
  rfl
theorem fil_end : fil 129 = cS one1 := by simp [fil, cS, one1]
theorem cells_rep (n : Nat) (x : PS) : (List.replicate n (cS x)).flatten = cells (List.replicate n x) := by
  simp [cells, List.flatMap]
set_option maxRecDepth 100000 in
set_option maxHeartbeats 4000000 in
theorem new_st (hs : St w0 X L w) (n t : Int) :
    Calls Try.prog 12 #[.int .i64 n, .int .i64 t] w fun e w' =>
      match newP1 n t with
      | none => e = .returned (.tuple #[.pointer none, .int .i64 2]) ∧ St w0 X L w'
      | some p => ∃ D g, e = .returned (.tuple #[.pointer (some ⟨D, 0, none⟩), .int .i64 0]) ∧ St w0 X (pD D (some ⟨g, 0, none⟩) p.l.length p :: pG g 0 p.l.length p :: L) w' := by
  obtain ⟨b1, hb1⟩ : ∃ b, decide (1 ≤ n) = b := ⟨_, rfl⟩
  obtain ⟨b2, hb2⟩ : ∃ b, decide (n ≤ 32) = b := ⟨_, rfl⟩
  obtain ⟨b3, hb3⟩ : ∃ b, decide (1 ≤ t) = b := ⟨_, rfl⟩
  obtain ⟨b4, hb4⟩ : ∃ b, decide (t ≤ 256) = b := ⟨_, rfl⟩
  have hV : (!decide (false ∈ [b1, b2, b3, b4])) = decide (1 ≤ n ∧ n ≤ 32 ∧ 1 ≤ t ∧ t ≤ 256) := by
    rw [← hb1, ← hb2, ← hb3, ← hb4]
    by_cases h1 : 1 ≤ n <;> by_cases h2 : n ≤ 32 <;> by_cases h3 : 1 ≤ t <;> by_cases h4 : t ≤ 256 <;> simp [h1, h2, h3, h4]
  by_cases hc : 1 ≤ n ∧ n ≤ 32 ∧ 1 ≤ t ∧ t ≤ 256
  · clear hb1 hb2 hb3 hb4
    obtain ⟨k, rfl⟩ : ∃ k : Nat, n = k := ⟨n.toNat, by omega⟩
    have hk1 : 1 ≤ k := by omega
    have hk2 : k ≤ 32 := by omega
    have hd1 : decide (1 ≤ (k : Int)) = true := by simp; omega
    have hd2 : decide ((k : Int) ≤ 32) = true := by simp; omega
    have ht1 := hc.2.2.1
    have ht2 := hc.2.2.2
    have HN := Lib.hid (show newP1 k t = some ⟨t, List.replicate k one1⟩ by unfold newP1; rw [if_pos hc, Int.toNat_natCast])
    obtain ⟨z, hz1, hz2⟩ := iOne
    have Z := Lib.hid (show (Try.prog.info? 84).bind (fun i => i.zero.map (·.cells.toList)) = some z.cells.toList by
      cases hi : Try.prog.info? 84 with
      | none => simp [hi] at hz1
      | some i => simp [hi] at hz1 ⊢; exact ⟨z, hz1.1, rfl⟩)
    have ZL := Lib.hid (show z.cells.toList.length = 131 by simpa using hz2)
    clear hV hc hz1 hz2 b1 b2 b3 b4
    rw [HN.out]
    go_enter Try.func12, Try.ntmps12
    go_upto_region 3 with (first | ((with_reducible refine Se.isL (o := ⟨some 16, _, _, _, _, _⟩) ?_); (refine Se.toL rfl (Se.bsv (o := ⟨some 16, _, _, _, _, _⟩) hs rfl Try.underlying112 bool_info rfl ([.bool true, .bool true, .bool true, .bool true]) (by rfl) (by rfl) (by decide) (by decide) (by simp [Value.oneCell']) ?_); clear hs; rintro w g16 - hs)) | (go_at_call 32; refine Calls.mono (all_v hs [true, true, true, true] true (Reads.blk 0 rfl) rfl (by decide) rfl) ?_; clear hs; rintro e w ⟨rfl, hs⟩))
    replace hs := hs.drop
    clear hd1 hd2
    have FO := Lib.hid (show ∀ v ∈ fil 0, v.oneCell' = true by intro v hv; simp [fil] at hv; rcases hv with rfl | rfl | ⟨_, rfl⟩ <;> rfl)
    have F0 := Lib.hid (fil_len (k := 0) (by omega))
    go_upto_region 5 with (first | ((with_reducible refine Se.isL (o := ⟨some 20, _, _, _, _, _⟩) ?_); (refine Se.toL rfl (Se.bd (o := ⟨some 20, _, _, _, _, _⟩) rfl rfl ((build_fil _)) ?_))) | ((with_reducible refine Se.isL (o := ⟨some 6, _, _, _, _, _⟩) ?_); (refine Se.toL rfl (Se.al (o := ⟨some 6, _, _, _, _, _⟩) hs rfl (Z.out) ?_); clear hs; rintro w g6 - hs)) | ((with_reducible refine Se.isL (o := ⟨none, Op.store 84 _ _, _, _, _, _⟩) ?_); (refine Se.toL rfl (Se.sow 0 hs rfl rfl rfl rfl (FO.out) ((by rw [F0.out]; kernel_rfl)) ((by rw [ZL.out, F0.out])) ?_); clear hs; intro w hs; try simp only [List.set_cons_zero] at hs)))
    go_loopg [21, 7] 129 (fun gh s21 _ wr => ∃ m : Nat, gh = 129 - m ∧ m ≤ 129 ∧ s21 = .int .i64 m ∧ St w0 X (.blk g6 84 (fil m) :: L) wr)
    case atStart => exact ⟨0, rfl, by omega, rfl, hs⟩
    case round =>
      clear hs
      rename World => w
      obtain ⟨m, rfl, hm, rfl, hs⟩ := hrel
      by_cases hlt : m < 129
      · have hlt' : (m : Int) < 129 := by omega
        have FL := Lib.hid (fil_len hm)
        have FS := Lib.hid (fil_set hlt)
        go_wp2_with (first | ((with_reducible refine Se.isL (o := ⟨none, Op.store 36 _ _, _, _, _, _⟩) ?_); ((first | refine Se.toL rfl (Se.soq 0 (v := .int _ _) hs rfl rfl rfl rfl rfl (by kernel_rfl) ((by rw [FL.out]; omega)) (FS.out) ?_) | refine Se.toL rfl (Se.soq 0 (v := .bool _) hs rfl rfl rfl rfl rfl (by kernel_rfl) ((by rw [FL.out]; omega)) (FS.out) ?_) | refine Se.toL rfl (Se.soq 0 (v := .slice _ _ _) hs rfl rfl rfl rfl rfl (by kernel_rfl) ((by rw [FL.out]; omega)) (FS.out) ?_) | refine Se.toL rfl (Se.soq 0 (v := .pointer _) hs rfl rfl rfl rfl rfl (by kernel_rfl) ((by rw [FL.out]; omega)) (FS.out) ?_) | refine Se.toL rfl (Se.soq 0 (v := .string _) hs rfl rfl rfl rfl rfl (by kernel_rfl) ((by rw [FL.out]; omega)) (FS.out) ?_) | refine Se.toL rfl (Se.soq 0 (v := .map _) hs rfl rfl rfl rfl rfl (by kernel_rfl) ((by rw [FL.out]; omega)) (FS.out) ?_) | refine Se.toL rfl (Se.soq 0 (v := .func _ _ _) hs rfl rfl rfl rfl rfl (by kernel_rfl) ((by rw [FL.out]; omega)) (FS.out) ?_) | refine Se.toL rfl (Se.soq 0 (v := .nilFunc) hs rfl rfl rfl rfl rfl (by kernel_rfl) ((by rw [FL.out]; omega)) (FS.out) ?_)); clear hs; intro w hs; try simp only [List.set_cons_zero] at hs)))
        go_roundg (129 - (m + 1))
        case measure => omega
        case rel => exact ⟨m + 1, rfl, by omega, by go_num, hs⟩
      · obtain rfl : m = 129 := by omega
        rw [fil_end] at hs
        obtain ⟨xs, hxs⟩ : ∃ xs, xs = cS one1 := ⟨_, rfl⟩
        rw [← hxs] at hs
        have XL := Lib.hid (show xs.length = 131 by rw [hxs]; rfl)
        have XO := Lib.hid (show ∀ v ∈ xs, v.oneCell' = true by rw [hxs]; exact cS_one _)
        have HX := Lib.hid (show (List.replicate k xs).flatten = cells (List.replicate k one1) by rw [hxs]; exact cells_rep _ _)
        obtain ⟨z', hz1, hz2⟩ := iOne
        have Z1 := Lib.hid hz1
        clear hxs hz1 hz2 hm hlt
        go_wp2_with (first | ((with_reducible refine Se.isL (o := ⟨some 29, _, _, _, _, _⟩) ?_); (refine Se.toL rfl (Se.ldw (o := ⟨some 29, _, _, _, _, _⟩) hs rfl rfl ((Reads.blk 0 rfl)) ((by rw [XL.out]; kernel_rfl)) (by kernel_rfl) ?_))) | ((with_reducible refine Se.isL (o := ⟨some 30, _, _, _, _, _⟩) ?_); (refine Se.toL rfl (Se.bs1 (o := ⟨some 30, _, _, _, _, _⟩) hs rfl Try.underlying72 Z1.out (by decide) (by decide) rfl (XL.out) ?_); clear hs; rintro w g30 - hs)) | (go_at_call 33; refine Calls.mono (repeat_st hs xs XL.out XO.out (Reads.blk 0 rfl) k hk1 hk2) ?_; clear hs; rintro e w ⟨g32, rfl, hs⟩))
        rw [HX.out] at hs
        go_ret2
        refine ⟨w.heap.size, g32, rfl, ?_⟩
        simp only [pD, pG, List.length_replicate]
        exact ((hs.alloc [.int .i64 t, .slice (some ⟨g32, 0, none⟩) k k] 74).u22.drop.drop)
  · rw [decide_eq_false hc] at hV
    have HA := Lib.hid hV
    have HN := Lib.hid (show newP1 n t = none by unfold newP1; rw [if_neg hc])
    clear hV hc
    rw [HN.out]
    go_enter Try.func12, Try.ntmps12
    go_wp2_with (first | ((with_reducible refine Se.isL (o := ⟨some 16, _, _, _, _, _⟩) ?_); (refine Se.toL rfl (Se.bsv (o := ⟨some 16, _, _, _, _, _⟩) hs rfl Try.underlying112 bool_info rfl ([.bool b1, .bool b2, .bool b3, .bool b4]) (by rfl) (by rfl) (by decide) (by decide) (by simp [Value.oneCell']) ?_); clear hs; rintro w g16 - hs)) | (go_at_call 32; refine Calls.mono (all_v hs [b1, b2, b3, b4] false (Reads.blk 0 rfl) rfl (by decide) HA.out) ?_; clear hs; rintro e w ⟨rfl, hs⟩))
    go_ret2
    exact ⟨rfl, hs.drop⟩
end Pa
end Go.Proofs.Ytplhelhijjmlaaa

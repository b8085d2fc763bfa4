/- Layer 28: the methods. No condition but Go's own limits. Printed by wip/gen_zonens.py. -/
import Derived.Test.YthpgkkfahiglnaaZoneAll
set_option maxRecDepth 100000
set_option maxHeartbeats 4000000
set_option linter.unusedSimpArgs false
set_option linter.unusedVariables false
namespace Go.Proofs.Ythpgkkfahiglnaa
open Go Go.RowKit
namespace Zo
open Se (St At Reads Cell)
open Li (Rd Blk Fr)
variable {w0 w : World} {X : List Nat} {L : List At}
attribute [local irreducible] Calls
attribute [local go_sem] eql_nil
theorem stv_len (k : Nat) : (stv k).length = 4 := by unfold stv; split <;> rfl
theorem stv_one (k : Nat) : ∀ v ∈ stv k, v.oneCell' = true := by unfold stv; split <;> simp [st0, stl, Value.oneCell']
theorem run_results_cr {P : Program} (hs : St w0 X L w) {fn : Func} {tmps : Array Value} {p1 p2 : Tmp} {ty1 ty2 : TypeId} {g1 g2 : Nat} {v : Value} {xs : List Value} (hr : fn.results = #[.cell p1 ty1, .cell p2 ty2]) (h1 : tmps.getD p1 undef = .pointer (some ⟨g1, 0, none⟩)) (hc : Cell L g1 0 v) (hd1 : (P.underlying ty1).map TypeDesc.isRow = some false) (h2 : tmps.getD p2 undef = .pointer (some ⟨g2, 0, none⟩)) (hR : Reads L (some ⟨g2, 0, none⟩) xs) (hd : (P.underlying ty2).map TypeDesc.isRow = some true) (hi : (P.info? ty2).map (·.size) = some xs.length) : (results fn tmps).run P w = .ok (.tuple #[v, .agg xs.toArray]) w := by
 have e1 := Se.run_loadVar_reads hs hR hd hi
 have e0 : (loadVar ty1 ⟨g1, 0, none⟩).run P w = .ok v w := by
  have h := Se.run_loadAt_cell (P := P) (w := w) hd1 (hc w hs.hold)
  simpa [Instr.loadAt, Instr.sureAddr] using h
 have h1' : tmps[p1]?.getD undef = .pointer (some ⟨g1, 0, none⟩) := by simpa using h1
 have h2' : tmps[p2]?.getD undef = .pointer (some ⟨g2, 0, none⟩) := by simpa using h2
 simp [results, hr, h1', h2', asAddr, e0, e1]
theorem zIn : (Try.prog.info? 3).bind (fun i => i.zero.map (·.cells.toList)) = some [.int .i64 0] := by kernel_rfl
theorem putE_z {z : Zs} {i n : Nat} (h : (putE z i n).2 ≠ 0) : (putE z i n).1 = z := by
 unfold putE at h ⊢
 by_cases h1 : z.c.cap < (z.l.getD i dz).p + n
 ·rw [if_pos h1]
 rw [if_neg h1] at h ⊢
 by_cases h2 : opn (z.l.getD i dz).st = true
 ·rw [if_pos h2] at h; exact absurd rfl h
 rw [if_neg h2] at h ⊢
 by_cases h3 : (opensE z i).2 = 0
 ·rw [if_pos h3] at h; exact absurd rfl h
 rw [if_neg h3]
theorem write_z {z : Zs} {x y : Int} (h : (writeE z x y).2 ≠ 0) : (writeE z x y).1 = z := by
 unfold writeE at *
 repeat' (split; · rfl)
 rename_i h1 h2 h3 h4 h5
 rw [if_neg h1, if_neg h2, if_neg h3, if_neg h4, if_neg h5] at h
 exact putE_z h
theorem act_z {z : Zs} {i a : Nat} (h : (actE z i a).2 ≠ 0) : (actE z i a).1 = z := by
 rw [actE_x rfl rfl] at *
 split at h <;> split at h <;> (try split at h) <;> (try split at h) <;> (try split at h) <;> first | rfl | exact absurd rfl h | skip
 all_goals simp_all
theorem manage_z {z : Zs} {x y : Int} (h : (manageE z x y).2 ≠ 0) : (manageE z x y).1 = z := by
 unfold manageE at *
 split at h
 ·rename_i h1; rw [if_pos h1]
 ·rename_i h1; rw [if_neg h1]; exact act_z h
theorem manageAll_z {z : Zs} {x : Int} (h : (manageAllE z x).2 ≠ 0) : (manageAllE z x).1 = z := by
 unfold manageAllE at *
 split at h
 ·rename_i h1; rw [if_pos h1]
 ·rename_i h1; rw [if_neg h1]
  split at h
  ·rename_i h2; exact absurd h2 h
  ·rename_i h2; rw [if_neg h2]
theorem write_st {g cc : Nat} {z : Zs} {a : Addr} {r : Option Nat} (hs : St w0 X (pZ g z (some a) cc :: pL r (some a) cc z :: L) w) (ho : OkZ z) (hw : z.w < 1099511627776) (x y : Int) :
  Calls Try.prog 12 #[.pointer (some ⟨g, 0, none⟩), .int .i64 x, .int .i64 y] w fun e w' => e = .returned (.agg (stv (writeE z x y).2).toArray) ∧ ∃ a r c, St w0 X (pZ g (writeE z x y).1 (some a) c :: pL r (some a) c (writeE z x y).1 :: L) w' := by
 have hk0 : 1 ≤ z.l.length := by rw [ho.1]; exact ho.2.1
 have hk1 : z.l.length ≤ 4194304 := by have := ho.1; have := ho.2.2.1; omega
 have CT : Hid (∀ (g6 g5 g4 : Nat) (w : World), St w0 X (.blk g6 32 st0 :: .blk g5 3 [.int .i64 y] :: .blk g4 3 [.int .i64 x] :: pZ g z (some a) cc :: pL r (some a) cc z :: L) w → Calls Try.prog 34 #[.pointer (some ⟨g, 0, none⟩), .func (.func 35) #[] #[.pointer (some ⟨g5, 0, none⟩), .pointer (some ⟨g4, 0, none⟩)]] w fun e w' => e = .returned (.agg (stv (writeE z x y).2).toArray) ∧ ∃ a r c, St w0 X (.blk g6 32 st0 :: pZ g (writeE z x y).1 (some a) c :: pL r (some a) c (writeE z x y).1 :: L) w') := Lib.hid (fun g6 g5 g4 w hs => by
  replace hs := hs.pull 0 rfl
  replace hs := hs.pull 2 rfl
  replace hs := hs.pull 2 rfl
  replace hs := hs.pull 4 rfl
  replace hs := hs.pull 4 rfl
  simp only [List.eraseIdx_cons_succ, List.eraseIdx_cons_zero] at hs
  by_cases hq : (writeE z x y).2 = 0
  ·rw [hq]
   refine (try_w_ok (M := [.blk g5 3 [.int .i64 y], .blk g4 3 [.int .i64 x]]) (M' := [.blk g5 3 [.int .i64 y], .blk g4 3 [.int .i64 x]]) (z' := (writeE z x y).1) hs hk0 hk1 #[.pointer (some ⟨g5, 0, none⟩), .pointer (some ⟨g4, 0, none⟩)] (fun T g a r c w hs => (write1_st hs ho hw (Cell.blk 0 rfl rfl) (Cell.blk 1 rfl rfl)).mono ?_)).mono ?_
   ·rintro e w ⟨_, ⟨_, h1, h2⟩ | ⟨h1, _⟩⟩
    ·exact ⟨h1, a, r, c, h2⟩
    ·exact absurd hq h1
   ·rintro e w ⟨h1, a, r, c, hs⟩
    refine ⟨h1, a, r, c, ?_⟩
    simp only [List.cons_append, List.nil_append] at hs
    replace hs := hs.pull 3 rfl
    replace hs := hs.pull 3 rfl
    replace hs := hs.pull 3 rfl
    replace hs := hs.pull 3 rfl
    replace hs := hs.pull 4 rfl
    simp only [List.eraseIdx_cons_succ, List.eraseIdx_cons_zero] at hs
    exact hs.sub (List.Sublist.cons_cons _ (List.Sublist.cons_cons _ (List.Sublist.cons_cons _ (.cons _ (.cons _ (List.Sublist.refl _))))))
  ·rw [show stv (writeE z x y).2 = stl (writeE z x y).2 from if_neg hq]
   have hz : (writeE z x y).1 = z := write_z hq
   rw [hz]
   refine (try_w_bad (M := [.blk g5 3 [.int .i64 y], .blk g4 3 [.int .i64 x]]) (M' := [.blk g5 3 [.int .i64 y], .blk g4 3 [.int .i64 x]]) hs hk0 hk1 #[.pointer (some ⟨g5, 0, none⟩), .pointer (some ⟨g4, 0, none⟩)] (writeE z x y).2 (fun T g a r c w hs => (write1_st hs ho hw (Cell.blk 0 rfl rfl) (Cell.blk 1 rfl rfl)).mono ?_)).mono ?_
   ·rintro e w ⟨_, ⟨h1, _⟩ | ⟨_, h1, z', h2⟩⟩
    ·exact absurd h1 hq
    ·exact ⟨h1, h2.drop.drop⟩
   ·rintro e w ⟨h1, hs⟩
    refine ⟨h1, a, r, cc, ?_⟩
    simp only [List.cons_append, List.nil_append] at hs
    replace hs := hs.pull 3 rfl
    replace hs := hs.pull 3 rfl
    replace hs := hs.pull 3 rfl
    replace hs := hs.pull 3 rfl
    replace hs := hs.pull 4 rfl
    simp only [List.eraseIdx_cons_succ, List.eraseIdx_cons_zero] at hs
    exact hs.sub (List.Sublist.cons_cons _ (List.Sublist.cons_cons _ (List.Sublist.cons_cons _ (.cons _ (.cons _ (List.Sublist.refl _)))))))
 obtain ⟨S, hS⟩ : ∃ S, S = stv (writeE z x y).2 := ⟨_, rfl⟩
 have SL := Lib.hid (show S.length = 4 by rw [hS]; exact stv_len _)
 have SO := Lib.hid (show ∀ v ∈ S, v.oneCell' = true by rw [hS]; exact stv_one _)
 have ZL := Lib.hid (show st0.length = 4 from rfl)
 have ZS : Hid ((Try.prog.info? 32).bind (fun i => i.zero.map (·.cells.toList)) = some st0) := Lib.hid zSt
 obtain ⟨q, hq⟩ : ∃ q, q = (writeE z x y).1 := ⟨_, rfl⟩
 rw [← hS, ← hq] at CT ⊢
 clear ho hw hk0 hk1 hS hq
 go_enter Try.func12, Try.ntmps12
 go_wp2_with (first | ((with_reducible refine Se.isL (o := ⟨some 6, _, _, _, _, _⟩) ?_); (refine Se.toL rfl (Se.al (o := ⟨some 6, _, _, _, _, _⟩) hs rfl (ZS.out) ?_); clear hs; rintro w g6 - hs)) | ((with_reducible refine Se.isL (o := ⟨none, _, _, _, _, _⟩) ?_); (refine Se.toL rfl (Se.sow 0 hs rfl rfl rfl rfl (SO.out) ((by rw [SL.out]; kernel_rfl)) ((by rw [SL.out, ZL.out])) ?_); clear hs; intro w hs; try simp only [List.cons_append, List.nil_append, List.set_cons_zero] at hs)) | ((first | with_reducible refine Se.ab hs ?_ | with_reducible refine Se.abc hs ?_); clear hs; (first | ((fail_if_success (have _q := g5)); generalize w.heap.size = g5; intro w hs) | (generalize w.heap.size = g4; intro w hs))) | (go_at_call 34; refine Calls.mono (CT.out _ _ _ _ hs) ?_; clear hs; rintro e w ⟨rfl, a', r', c', hs⟩))
 refine bodyPost_ret (v := .agg S.toArray) ?_ rfl ?_
 ·exact run_results_row hs rfl rfl (Reads.blk 0 rfl) (by kernel_rfl) (by rw [SL.out] <;> kernel_rfl)
 ·exact ⟨rfl, a', r', c', hs.drop⟩
theorem manage_st {g cc : Nat} {z : Zs} {a : Addr} {r : Option Nat} (hs : St w0 X (pZ g z (some a) cc :: pL r (some a) cc z :: L) w) (ho : OkZ z) (x y : Int) :
  Calls Try.prog 18 #[.pointer (some ⟨g, 0, none⟩), .int .i64 x, .int .i64 y] w fun e w' => e = .returned (.agg (stv (manageE z x y).2).toArray) ∧ ∃ a r c, St w0 X (pZ g (manageE z x y).1 (some a) c :: pL r (some a) c (manageE z x y).1 :: L) w' := by
 have hk0 : 1 ≤ z.l.length := by rw [ho.1]; exact ho.2.1
 have hk1 : z.l.length ≤ 4194304 := by have := ho.1; have := ho.2.2.1; omega
 have CT : Hid (∀ (g6 g5 g4 : Nat) (w : World), St w0 X (.blk g6 32 st0 :: .blk g5 48 [.int .i64 y] :: .blk g4 3 [.int .i64 x] :: pZ g z (some a) cc :: pL r (some a) cc z :: L) w → Calls Try.prog 34 #[.pointer (some ⟨g, 0, none⟩), .func (.func 44) #[] #[.pointer (some ⟨g5, 0, none⟩), .pointer (some ⟨g4, 0, none⟩)]] w fun e w' => e = .returned (.agg (stv (manageE z x y).2).toArray) ∧ ∃ a r c, St w0 X (.blk g6 32 st0 :: pZ g (manageE z x y).1 (some a) c :: pL r (some a) c (manageE z x y).1 :: L) w') := Lib.hid (fun g6 g5 g4 w hs => by
  replace hs := hs.pull 0 rfl
  replace hs := hs.pull 2 rfl
  replace hs := hs.pull 2 rfl
  replace hs := hs.pull 4 rfl
  replace hs := hs.pull 4 rfl
  simp only [List.eraseIdx_cons_succ, List.eraseIdx_cons_zero] at hs
  by_cases hq : (manageE z x y).2 = 0
  ·rw [hq]
   refine (try_m_ok (M := [.blk g5 48 [.int .i64 y], .blk g4 3 [.int .i64 x]]) (M' := [.blk g5 48 [.int .i64 y], .blk g4 3 [.int .i64 x]]) (z' := (manageE z x y).1) hs hk0 hk1 #[.pointer (some ⟨g5, 0, none⟩), .pointer (some ⟨g4, 0, none⟩)] (fun T g a r c w hs => (manage1_st hs ho (Cell.blk 1 rfl rfl) (Cell.blk 0 rfl rfl)).mono ?_)).mono ?_
   ·rintro e w ⟨_, ⟨_, h1, h2⟩ | ⟨h1, _⟩⟩
    ·exact ⟨h1, a, r, c, h2⟩
    ·exact absurd hq h1
   ·rintro e w ⟨h1, a, r, c, hs⟩
    refine ⟨h1, a, r, c, ?_⟩
    simp only [List.cons_append, List.nil_append] at hs
    replace hs := hs.pull 3 rfl
    replace hs := hs.pull 3 rfl
    replace hs := hs.pull 3 rfl
    replace hs := hs.pull 3 rfl
    replace hs := hs.pull 4 rfl
    simp only [List.eraseIdx_cons_succ, List.eraseIdx_cons_zero] at hs
    exact hs.sub (List.Sublist.cons_cons _ (List.Sublist.cons_cons _ (List.Sublist.cons_cons _ (.cons _ (.cons _ (List.Sublist.refl _))))))
  ·rw [show stv (manageE z x y).2 = stl (manageE z x y).2 from if_neg hq]
   have hz : (manageE z x y).1 = z := manage_z hq
   rw [hz]
   refine (try_m_bad (M := [.blk g5 48 [.int .i64 y], .blk g4 3 [.int .i64 x]]) (M' := [.blk g5 48 [.int .i64 y], .blk g4 3 [.int .i64 x]]) hs hk0 hk1 #[.pointer (some ⟨g5, 0, none⟩), .pointer (some ⟨g4, 0, none⟩)] (manageE z x y).2 (fun T g a r c w hs => (manage1_st hs ho (Cell.blk 1 rfl rfl) (Cell.blk 0 rfl rfl)).mono ?_)).mono ?_
   ·rintro e w ⟨_, ⟨h1, _⟩ | ⟨_, h1, z', h2⟩⟩
    ·exact absurd h1 hq
    ·exact ⟨h1, h2.drop.drop⟩
   ·rintro e w ⟨h1, hs⟩
    refine ⟨h1, a, r, cc, ?_⟩
    simp only [List.cons_append, List.nil_append] at hs
    replace hs := hs.pull 3 rfl
    replace hs := hs.pull 3 rfl
    replace hs := hs.pull 3 rfl
    replace hs := hs.pull 3 rfl
    replace hs := hs.pull 4 rfl
    simp only [List.eraseIdx_cons_succ, List.eraseIdx_cons_zero] at hs
    exact hs.sub (List.Sublist.cons_cons _ (List.Sublist.cons_cons _ (List.Sublist.cons_cons _ (.cons _ (.cons _ (List.Sublist.refl _)))))))
 obtain ⟨S, hS⟩ : ∃ S, S = stv (manageE z x y).2 := ⟨_, rfl⟩
 have SL := Lib.hid (show S.length = 4 by rw [hS]; exact stv_len _)
 have SO := Lib.hid (show ∀ v ∈ S, v.oneCell' = true by rw [hS]; exact stv_one _)
 have ZL := Lib.hid (show st0.length = 4 from rfl)
 have ZS : Hid ((Try.prog.info? 32).bind (fun i => i.zero.map (·.cells.toList)) = some st0) := Lib.hid zSt
 obtain ⟨q, hq⟩ : ∃ q, q = (manageE z x y).1 := ⟨_, rfl⟩
 rw [← hS, ← hq] at CT ⊢
 clear ho hk0 hk1 hS hq
 go_enter Try.func18, Try.ntmps18
 go_wp2_with (first | ((with_reducible refine Se.isL (o := ⟨some 6, _, _, _, _, _⟩) ?_); (refine Se.toL rfl (Se.al (o := ⟨some 6, _, _, _, _, _⟩) hs rfl (ZS.out) ?_); clear hs; rintro w g6 - hs)) | ((with_reducible refine Se.isL (o := ⟨none, _, _, _, _, _⟩) ?_); (refine Se.toL rfl (Se.sow 0 hs rfl rfl rfl rfl (SO.out) ((by rw [SL.out]; kernel_rfl)) ((by rw [SL.out, ZL.out])) ?_); clear hs; intro w hs; try simp only [List.cons_append, List.nil_append, List.set_cons_zero] at hs)) | ((first | with_reducible refine Se.ab hs ?_ | with_reducible refine Se.abc hs ?_); clear hs; (first | ((fail_if_success (have _q := g5)); generalize w.heap.size = g5; intro w hs) | (generalize w.heap.size = g4; intro w hs))) | (go_at_call 34; refine Calls.mono (CT.out _ _ _ _ hs) ?_; clear hs; rintro e w ⟨rfl, a', r', c', hs⟩))
 refine bodyPost_ret (v := .agg S.toArray) ?_ rfl ?_
 ·exact run_results_row hs rfl rfl (Reads.blk 0 rfl) (by kernel_rfl) (by rw [SL.out] <;> kernel_rfl)
 ·exact ⟨rfl, a', r', c', hs.drop⟩
theorem manageAll_st {g cc : Nat} {z : Zs} {a : Addr} {r : Option Nat} (hs : St w0 X (pZ g z (some a) cc :: pL r (some a) cc z :: L) w) (ho : OkZ z) (x : Int) :
  Calls Try.prog 28 #[.pointer (some ⟨g, 0, none⟩), .int .i64 x] w fun e w' => e = .returned (.agg (stv (manageAllE z x).2).toArray) ∧ ∃ a r c, St w0 X (pZ g (manageAllE z x).1 (some a) c :: pL r (some a) c (manageAllE z x).1 :: L) w' := by
 have hk0 : 1 ≤ z.l.length := by rw [ho.1]; exact ho.2.1
 have hk1 : z.l.length ≤ 4194304 := by have := ho.1; have := ho.2.2.1; omega
 have CT : Hid (∀ (g4 g3 : Nat) (w : World), St w0 X (.blk g4 32 st0 :: .blk g3 48 [.int .i64 x] :: pZ g z (some a) cc :: pL r (some a) cc z :: L) w → Calls Try.prog 34 #[.pointer (some ⟨g, 0, none⟩), .func (.func 60) #[] #[.pointer (some ⟨g3, 0, none⟩)]] w fun e w' => e = .returned (.agg (stv (manageAllE z x).2).toArray) ∧ ∃ a r c, St w0 X (.blk g4 32 st0 :: pZ g (manageAllE z x).1 (some a) c :: pL r (some a) c (manageAllE z x).1 :: L) w') := Lib.hid (fun g4 g3 w hs => by
  replace hs := hs.pull 0 rfl
  replace hs := hs.pull 1 rfl
  replace hs := hs.pull 3 rfl
  replace hs := hs.pull 3 rfl
  simp only [List.eraseIdx_cons_succ, List.eraseIdx_cons_zero] at hs
  by_cases hq : (manageAllE z x).2 = 0
  ·rw [hq]
   refine (try_l_ok (M := [.blk g3 48 [.int .i64 x]]) (M' := [.blk g3 48 [.int .i64 x]]) (z' := (manageAllE z x).1) hs hk0 hk1 #[.pointer (some ⟨g3, 0, none⟩)] (fun T g a r c w hs => (manageAll1_st hs ho (Cell.blk 0 rfl rfl)).mono ?_)).mono ?_
   ·rintro e w ⟨_, ⟨_, h1, h2⟩ | ⟨h1, _⟩⟩
    ·exact ⟨h1, a, r, c, h2⟩
    ·exact absurd hq h1
   ·rintro e w ⟨h1, a, r, c, hs⟩
    refine ⟨h1, a, r, c, ?_⟩
    simp only [List.cons_append, List.nil_append] at hs
    replace hs := hs.pull 2 rfl
    replace hs := hs.pull 2 rfl
    replace hs := hs.pull 2 rfl
    replace hs := hs.pull 3 rfl
    simp only [List.eraseIdx_cons_succ, List.eraseIdx_cons_zero] at hs
    exact hs.sub (List.Sublist.cons_cons _ (List.Sublist.cons_cons _ (List.Sublist.cons_cons _ (.cons _ (List.Sublist.refl _)))))
  ·rw [show stv (manageAllE z x).2 = stl (manageAllE z x).2 from if_neg hq]
   have hz : (manageAllE z x).1 = z := manageAll_z hq
   rw [hz]
   refine (try_l_bad (M := [.blk g3 48 [.int .i64 x]]) (M' := [.blk g3 48 [.int .i64 x]]) hs hk0 hk1 #[.pointer (some ⟨g3, 0, none⟩)] (manageAllE z x).2 (fun T g a r c w hs => (manageAll1_st hs ho (Cell.blk 0 rfl rfl)).mono ?_)).mono ?_
   ·rintro e w ⟨_, ⟨h1, _⟩ | ⟨_, h1, z', h2⟩⟩
    ·exact absurd h1 hq
    ·exact ⟨h1, h2.drop.drop⟩
   ·rintro e w ⟨h1, hs⟩
    refine ⟨h1, a, r, cc, ?_⟩
    simp only [List.cons_append, List.nil_append] at hs
    replace hs := hs.pull 2 rfl
    replace hs := hs.pull 2 rfl
    replace hs := hs.pull 2 rfl
    replace hs := hs.pull 3 rfl
    simp only [List.eraseIdx_cons_succ, List.eraseIdx_cons_zero] at hs
    exact hs.sub (List.Sublist.cons_cons _ (List.Sublist.cons_cons _ (List.Sublist.cons_cons _ (.cons _ (List.Sublist.refl _))))))
 obtain ⟨S, hS⟩ : ∃ S, S = stv (manageAllE z x).2 := ⟨_, rfl⟩
 have SL := Lib.hid (show S.length = 4 by rw [hS]; exact stv_len _)
 have SO := Lib.hid (show ∀ v ∈ S, v.oneCell' = true by rw [hS]; exact stv_one _)
 have ZL := Lib.hid (show st0.length = 4 from rfl)
 have ZS : Hid ((Try.prog.info? 32).bind (fun i => i.zero.map (·.cells.toList)) = some st0) := Lib.hid zSt
 obtain ⟨q, hq⟩ : ∃ q, q = (manageAllE z x).1 := ⟨_, rfl⟩
 rw [← hS, ← hq] at CT ⊢
 clear ho hk0 hk1 hS hq
 go_enter Try.func28, Try.ntmps28
 go_wp2_with (first | ((with_reducible refine Se.isL (o := ⟨some 4, _, _, _, _, _⟩) ?_); (refine Se.toL rfl (Se.al (o := ⟨some 4, _, _, _, _, _⟩) hs rfl (ZS.out) ?_); clear hs; rintro w g4 - hs)) | ((with_reducible refine Se.isL (o := ⟨none, _, _, _, _, _⟩) ?_); (refine Se.toL rfl (Se.sow 0 hs rfl rfl rfl rfl (SO.out) ((by rw [SL.out]; kernel_rfl)) ((by rw [SL.out, ZL.out])) ?_); clear hs; intro w hs; try simp only [List.cons_append, List.nil_append, List.set_cons_zero] at hs)) | ((first | with_reducible refine Se.ab hs ?_ | with_reducible refine Se.abc hs ?_); clear hs; (first | (generalize w.heap.size = g3; intro w hs))) | (go_at_call 34; refine Calls.mono (CT.out _ _ _ hs) ?_; clear hs; rintro e w ⟨rfl, a', r', c', hs⟩))
 refine bodyPost_ret (v := .agg S.toArray) ?_ rfl ?_
 ·exact run_results_row hs rfl rfl (Reads.blk 0 rfl) (by kernel_rfl) (by rw [SL.out] <;> kernel_rfl)
 ·exact ⟨rfl, a', r', c', hs.drop⟩
theorem append_z {z : Zs} {x y : Int} (h : (appendE z x y).2.2 ≠ 0) : (appendE z x y).1 = z ∧ (appendE z x y).2.1 = 0 := by
 unfold appendE at h ⊢
 by_cases h1 : y < 1
 ·rw [if_pos h1]; exact ⟨rfl, rfl⟩
 rw [if_neg h1] at h ⊢
 by_cases h2 : insd z x 1 = false
 ·rw [if_pos h2]; exact ⟨rfl, rfl⟩
 rw [if_neg h2] at h ⊢
 by_cases h3 : x.toNat % z.c.sz ≠ 0
 ·rw [if_pos h3]; exact ⟨rfl, rfl⟩
 rw [if_neg h3] at h ⊢
 by_cases h4 : blkd (z.l.getD (x.toNat / z.c.sz) dz).st ≠ 0
 ·rw [if_pos h4]; exact ⟨rfl, rfl⟩
 rw [if_neg h4] at h ⊢
 by_cases h5 : (putE z (x.toNat / z.c.sz) y.toNat).2 = 0
 ·rw [if_pos h5] at h; exact absurd rfl h
 ·rw [if_neg h5]; exact ⟨rfl, rfl⟩
theorem append_st {g cc : Nat} {z : Zs} {a : Addr} {r : Option Nat} (hs : St w0 X (pZ g z (some a) cc :: pL r (some a) cc z :: L) w) (ho : OkZ z) (hw : z.w < 1099511627776) (x y : Int) :
  Calls Try.prog 40 #[.pointer (some ⟨g, 0, none⟩), .int .i64 x, .int .i64 y] w fun e w' => e = .returned (.tuple #[iv (appendE z x y).2.1, .agg (stv (appendE z x y).2.2).toArray]) ∧ ∃ a r c, St w0 X (pZ g (appendE z x y).1 (some a) c :: pL r (some a) c (appendE z x y).1 :: L) w' := by
 have hk0 : 1 ≤ z.l.length := by rw [ho.1]; exact ho.2.1
 have hk1 : z.l.length ≤ 4194304 := by have := ho.1; have := ho.2.2.1; omega
 have CT : Hid (∀ (g7 g6 g5 g4 : Nat) (w : World), St w0 X (.blk g7 32 st0 :: .blk g6 3 [.int .i64 0] :: .blk g5 3 [.int .i64 y] :: .blk g4 3 [.int .i64 x] :: pZ g z (some a) cc :: pL r (some a) cc z :: L) w → Calls Try.prog 34 #[.pointer (some ⟨g, 0, none⟩), .func (.func 72) #[] #[.pointer (some ⟨g5, 0, none⟩), .pointer (some ⟨g4, 0, none⟩), .pointer (some ⟨g6, 0, none⟩)]] w fun e w' => e = .returned (.agg (stv (appendE z x y).2.2).toArray) ∧ ∃ a r c, St w0 X (.blk g7 32 st0 :: .blk g6 3 [iv (appendE z x y).2.1] :: pZ g (appendE z x y).1 (some a) c :: pL r (some a) c (appendE z x y).1 :: L) w') := Lib.hid (fun g7 g6 g5 g4 w hs => by
  replace hs := hs.pull 0 rfl
  replace hs := hs.pull 3 rfl
  replace hs := hs.pull 3 rfl
  replace hs := hs.pull 3 rfl
  replace hs := hs.pull 5 rfl
  replace hs := hs.pull 5 rfl
  simp only [List.eraseIdx_cons_succ, List.eraseIdx_cons_zero] at hs
  by_cases hq : (appendE z x y).2.2 = 0
  ·rw [hq]
   refine (try_a_ok (M := [.blk g6 3 [iv 0], .blk g5 3 [.int .i64 y], .blk g4 3 [.int .i64 x]]) (M' := [.blk g6 3 [iv (appendE z x y).2.1], .blk g5 3 [.int .i64 y], .blk g4 3 [.int .i64 x]]) (z' := (appendE z x y).1) hs hk0 hk1 #[.pointer (some ⟨g5, 0, none⟩), .pointer (some ⟨g4, 0, none⟩), .pointer (some ⟨g6, 0, none⟩)] (fun T g a r c w hs => (append1_st hs ho hw (Cell.blk 0 rfl rfl) (Cell.blk 1 rfl rfl)).mono ?_)).mono ?_
   ·rintro e w ⟨_, ⟨_, h1, h2⟩ | ⟨h1, _⟩⟩
    ·exact ⟨h1, a, r, c, h2⟩
    ·exact absurd hq h1
   ·rintro e w ⟨h1, a, r, c, hs⟩
    refine ⟨h1, a, r, c, ?_⟩
    simp only [List.cons_append, List.nil_append] at hs
    replace hs := hs.pull 4 rfl
    replace hs := hs.pull 4 rfl
    replace hs := hs.pull 3 rfl
    replace hs := hs.pull 3 rfl
    replace hs := hs.pull 4 rfl
    replace hs := hs.pull 5 rfl
    simp only [List.eraseIdx_cons_succ, List.eraseIdx_cons_zero] at hs
    exact hs.sub (List.Sublist.cons_cons _ (List.Sublist.cons_cons _ (List.Sublist.cons_cons _ (List.Sublist.cons_cons _ (.cons _ (.cons _ (List.Sublist.refl _)))))))
  ·rw [show stv (appendE z x y).2.2 = stl (appendE z x y).2.2 from if_neg hq]
   obtain ⟨hz, hz2⟩ := append_z hq
   rw [hz, hz2]
   refine (try_a_bad (M := [.blk g6 3 [iv 0], .blk g5 3 [.int .i64 y], .blk g4 3 [.int .i64 x]]) (M' := [.blk g6 3 [iv 0], .blk g5 3 [.int .i64 y], .blk g4 3 [.int .i64 x]]) hs hk0 hk1 #[.pointer (some ⟨g5, 0, none⟩), .pointer (some ⟨g4, 0, none⟩), .pointer (some ⟨g6, 0, none⟩)] (appendE z x y).2.2 (fun T g a r c w hs => (append1_st hs ho hw (Cell.blk 0 rfl rfl) (Cell.blk 1 rfl rfl)).mono ?_)).mono ?_
   ·rintro e w ⟨_, ⟨h1, _⟩ | ⟨_, h1, z', h2⟩⟩
    ·exact absurd h1 hq
    ·exact ⟨h1, h2.drop.drop⟩
   ·rintro e w ⟨h1, hs⟩
    refine ⟨h1, a, r, cc, ?_⟩
    simp only [List.cons_append, List.nil_append] at hs
    replace hs := hs.pull 4 rfl
    replace hs := hs.pull 4 rfl
    replace hs := hs.pull 3 rfl
    replace hs := hs.pull 3 rfl
    replace hs := hs.pull 4 rfl
    replace hs := hs.pull 5 rfl
    simp only [List.eraseIdx_cons_succ, List.eraseIdx_cons_zero] at hs
    exact hs.sub (List.Sublist.cons_cons _ (List.Sublist.cons_cons _ (List.Sublist.cons_cons _ (List.Sublist.cons_cons _ (.cons _ (.cons _ (List.Sublist.refl _))))))))
 obtain ⟨S, hS⟩ : ∃ S, S = stv (appendE z x y).2.2 := ⟨_, rfl⟩
 have SL := Lib.hid (show S.length = 4 by rw [hS]; exact stv_len _)
 have SO := Lib.hid (show ∀ v ∈ S, v.oneCell' = true by rw [hS]; exact stv_one _)
 have ZL := Lib.hid (show st0.length = 4 from rfl)
 have ZS : Hid ((Try.prog.info? 32).bind (fun i => i.zero.map (·.cells.toList)) = some st0) := Lib.hid zSt
 obtain ⟨q, hq⟩ : ∃ q, q = (appendE z x y).1 := ⟨_, rfl⟩
 obtain ⟨at0, hat⟩ : ∃ q, q = (appendE z x y).2.1 := ⟨_, rfl⟩
 rw [← hS, ← hq, ← hat] at CT
 rw [← hS, ← hq, ← hat]
 clear ho hw hk0 hk1 hS hq hat
 go_enter Try.func40, Try.ntmps40
 go_upto_region 2 with (first | ((with_reducible refine Se.isL (o := ⟨some 6, _, _, _, _, _⟩) ?_); (refine Se.toL rfl (Se.al (o := ⟨some 6, _, _, _, _, _⟩) hs rfl (zIn) ?_); clear hs; rintro w g6 - hs)) | ((with_reducible refine Se.isL (o := ⟨some 7, _, _, _, _, _⟩) ?_); (refine Se.toL rfl (Se.al (o := ⟨some 7, _, _, _, _, _⟩) hs rfl (ZS.out) ?_); clear hs; rintro w g7 - hs)) | ((with_reducible refine Se.isL (o := ⟨none, _, _, _, _, _⟩) ?_); (refine Se.toL rfl (Se.sow 0 hs rfl rfl rfl rfl (SO.out) ((by rw [SL.out]; kernel_rfl)) ((by rw [SL.out, ZL.out])) ?_); clear hs; intro w hs; try simp only [List.cons_append, List.nil_append, List.set_cons_zero] at hs)) | ((first | with_reducible refine Se.ab hs ?_ | with_reducible refine Se.abc hs ?_); clear hs; (first | ((fail_if_success (have _q := g5)); generalize w.heap.size = g5; intro w hs) | (generalize w.heap.size = g4; intro w hs))) | (go_at_call 34; refine Calls.mono (CT.out _ _ _ _ _ hs) ?_; clear hs; rintro e w ⟨rfl, a', r', c', hs⟩))
 refine Ch.region' 3 (fun wx => wx.cell? ⟨g6, 0, none⟩ = some (iv at0) ∧ Blk wx g7 S 32) (fun | 2 => true | _ => false) (by kernel_rfl) (by decide +kernel) (⟨(Cell.blk 1 rfl rfl : Cell _ g6 0 (iv at0)) _ hs.drew.hold, hs.drew.hold (.blk g7 32 S) (by simp)⟩) ?_
 replace hs := hs.drew
 generalize w.drew = w at hs ⊢
 change Ch.CW _ _ _ _ _ [0, 1, 2] _ _
 refine Ch.pure (v := iv at0) (by rfl) (by rfl) (by rfl) (fun wx hS => Se.xl rfl rfl hS.1 (by decide +kernel)) ?_
 (try simp only [Act.put, List.setIfInBounds_toArray, List.set_cons_zero, List.set_cons_succ])
 refine Ch.pure (v := .agg S.toArray) (by rfl) (by rfl) (by rfl) (fun wx hS => Se.xla rfl rfl (Li.Rd.of_blk hS.2) (by rw [SL.out] <;> kernel_rfl) (by kernel_rfl)) ?_
 (try simp only [Act.put, List.setIfInBounds_toArray, List.set_cons_zero, List.set_cons_succ])
 refine Ch.noise (by rfl) (by rfl) (by rfl) (Se.so 1 (v := iv at0) hs rfl rfl rfl rfl rfl (by kernel_rfl) (by simp) ?_)
 clear hs
 intro w hs
 simp only [List.cons_append, List.nil_append, List.set_cons_zero, List.set_cons_succ] at hs
 refine ⟨⟨(Cell.blk 1 rfl rfl : Cell _ g6 0 (iv at0)) _ hs.hold, hs.hold (.blk g7 32 S) (by simp)⟩, ?_⟩
 (try simp only [Act.put, List.setIfInBounds_toArray, List.set_cons_zero, List.set_cons_succ])
 refine Ch.done ?_
 try simp only [List.drop_succ_cons, List.drop_zero]
 go_wp2_with (first | ((with_reducible refine Se.isL (o := ⟨none, _, _, _, _, _⟩) ?_); (refine Se.toL rfl (Se.sow 0 hs rfl rfl rfl rfl (SO.out) ((by rw [SL.out]; kernel_rfl)) (rfl) ?_); clear hs; intro w hs; try simp only [List.cons_append, List.nil_append, List.set_cons_zero] at hs)))
 refine bodyPost_ret (v := .tuple #[iv at0, .agg S.toArray]) ?_ rfl ?_
 ·exact run_results_cr hs rfl rfl (Cell.blk 1 rfl rfl) (by kernel_rfl) rfl (Reads.blk 0 rfl) (by kernel_rfl) (by rw [SL.out] <;> kernel_rfl)
 ·exact ⟨rfl, a', r', c', hs.drop.drop⟩
end Zo
end Go.Proofs.Ythpgkkfahiglnaa


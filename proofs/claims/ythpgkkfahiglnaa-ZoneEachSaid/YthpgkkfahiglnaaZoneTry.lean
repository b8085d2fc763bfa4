/- Layer 28: a panic becomes a status; a change on a copy. No condition but Go's own limits. -/
import Derived.Test.YthpgkkfahiglnaaZoneWith
set_option maxRecDepth 100000
set_option maxHeartbeats 4000000
set_option linter.unusedSimpArgs false
set_option linter.unusedVariables false
namespace Go.Proofs.Ythpgkkfahiglnaa
open Go Go.RowKit
namespace Zo
open Se (St At Reads Cell)
open Li (Rd Blk Fr)
variable {w0 w : World} {X : List Nat} {L : List At}
attribute [local irreducible] Calls
attribute [local go_sem] eql_nil
theorem stl_len (k : Nat) : (stl k).length = 4 := rfl
theorem stl_one (k : Nat) : ∀ v ∈ stl k, v.oneCell' = true := by simp [stl, Value.oneCell']
def st0 : List Value := [.int .u8 0, .int .u8 0, .bool false, .bool false]
def stv (k : Nat) : List Value := if k = 0 then st0 else stl k
theorem ta_st (v : Array Value) (w : World) : (Instr.typeAssert (.iface 32 (.agg v)) 20 32 true).run Try.prog w = .ok (.tuple #[.agg v, .bool true]) w := by kernel_rfl
theorem caught_panic (k gs : Nat) {l : List Value} (hl : l.length = 4) (hs : St w0 X (.blk gs 32 l :: L) w) : CallsD Try.prog 41 #[.pointer (some ⟨gs, 0, none⟩)] (.panicking [{ v := .iface 32 (.agg (stl k).toArray), recovered := false }]) w fun e' u' w' => e' = .returned (.tuple #[]) ∧ u' = .panicking [{ v := .iface 32 (.agg (stl k).toArray), recovered := true }] ∧ St w0 X (.blk gs 32 (stl k) :: L) w' := by
 obtain ⟨SL, hSL⟩ : ∃ SL, SL = stl k := ⟨_, rfl⟩
 have SLL := Lib.hid (show SL.length = 4 by rw [hSL]; rfl)
 have SLO := Lib.hid (show ∀ v ∈ SL, v.oneCell' = true by rw [hSL]; exact stl_one k)
 have HL := Lib.hid hl
 have ta := ta_st
 rw [← hSL]
 clear hSL hl
 refine callsD_of_wpS Try.func41 rfl fun c₀ cs hu => ?_
 refine wpS_seq ?_
 apply wpS_region
 simp [wpOpsS, go_sem, recoverD, hu, Try.ntmps41, Exit.thenS]
 refine wpS_of_wp ?_
 refine (fun (key : ∀ (Q : Exit → Act → World → Prop), (∀ a w', a.defers = [] ∧ St w0 X (.blk gs 32 SL :: L) w' → Q .normal a w') → Code.wp Try.prog _ Q _ w) => key _ ?_) ?_
 ·intro a w' hs
  simp [go_sem, bodyPostS, results, Try.results41]
  exact hs
 intro Q hQ
 simp only [List.size_toArray, List.length_cons, List.length_nil, Nat.reduceAdd, Nat.reduceSub, Array.replicate_succ, Array.replicate_zero, List.push_toArray, List.append_toArray, List.nil_append, List.cons_append]
 go_wp2_with (first | ((with_reducible refine Se.isL (o := ⟨some 3, _, _, _, _, _⟩) ?_); (refine Se.toL rfl (Se.al (o := ⟨some 3, _, _, _, _, _⟩) hs rfl (zSt) ?_); clear hs; rintro w g3 - hs)) | ((with_reducible refine Se.isL (o := ⟨none, _, _, _, _, _⟩) ?_); (refine Se.toL rfl (Se.sow 0 hs rfl rfl rfl rfl (SLO.out) ((by rw [SLL.out]; kernel_rfl)) ((by rw [SLL.out]; rfl)) ?_); clear hs; intro w hs; try simp only [List.cons_append, List.nil_append, List.set_cons_zero] at hs)) | ((with_reducible refine Se.isL (o := ⟨some 17, _, _, _, _, _⟩) ?_); (refine Se.toL rfl (Se.ldw (o := ⟨some 17, _, _, _, _, _⟩) hs rfl rfl ((Reads.blk 0 rfl)) ((by rw [SLL.out]; kernel_rfl)) (by kernel_rfl) ?_))) | ((with_reducible refine Se.isL (o := ⟨none, _, _, _, _, _⟩) ?_); (refine Se.toL rfl (Se.sow 1 hs rfl rfl rfl rfl (SLO.out) ((by rw [SLL.out]; kernel_rfl)) ((by rw [SLL.out, HL.out])) ?_); clear hs; intro w hs; try simp only [List.cons_append, List.nil_append, List.set_cons_zero, List.set_cons_succ] at hs)))
 first | exact ⟨rfl, hs.drop⟩ | exact hQ _ _ ⟨rfl, hs.drop⟩ | exact hs.drop
theorem caught_idle (gs : Nat) (hs : St w0 X L w) : CallsD Try.prog 41 #[.pointer (some ⟨gs, 0, none⟩)] .returning w fun e' u' w' => e' = .returned (.tuple #[]) ∧ u' = .returning ∧ St w0 X L w' := by
 refine callsD_of_wpS Try.func41 rfl fun c₀ cs hu => ?_
 refine wpS_seq ?_
 apply wpS_region
 simp [wpOpsS, go_sem, recoverD, hu, Try.ntmps41, Exit.thenS]
 refine wpS_of_wp ?_
 refine (fun (key : ∀ (Q : Exit → Act → World → Prop), (∀ a w', a.defers = [] ∧ St w0 X L w' → Q .normal a w') → Code.wp Try.prog _ Q _ w) => key _ ?_) ?_
 ·intro a w' hs
  simp [go_sem, bodyPostS, results, Try.results41]
  refine ⟨hs.1, .returning, ?_, rfl, hs.2⟩
  cases c₀
  dsimp only at hu ⊢
  rw [hu]
 intro Q hQ
 simp only [List.size_toArray, List.length_cons, List.length_nil, Nat.reduceAdd, Nat.reduceSub, Array.replicate_succ, Array.replicate_zero, List.push_toArray, List.append_toArray, List.nil_append, List.cons_append]
 go_wp2_with fail
 all_goals first | exact ⟨rfl, hs⟩ | exact hQ _ _ ⟨rfl, hs⟩ | exact hs
/- A change on a copy: the closures that are changes. -/
theorem try_w_ok {g cc : Nat} {a : Addr} {r : Option Nat} {z z' : Zs} {M M' : List At} (hs : St w0 X (pZ g z (some a) cc :: pL r (some a) cc z :: (M ++ L)) w) (hn : 1 ≤ z.l.length) (hle : z.l.length ≤ 4194304) (bnd : Array Value)
  (HC : ∀ (T : List At) (g' : Nat) (a' : Addr) (r' : Option Nat) (c' : Nat) (w : World), St w0 X (pZ g' z (some a') c' :: pL r' (some a') c' z :: (M ++ T)) w → Calls Try.prog 35 (#[.pointer (some ⟨g', 0, none⟩)] ++ bnd) w fun e w' => e = .returned (.tuple #[]) ∧ ∃ a'' r'' c'', St w0 X (pZ g' z' (some a'') c'' :: pL r'' (some a'') c'' z' :: (M' ++ T)) w') :
  Calls Try.prog 34 #[.pointer (some ⟨g, 0, none⟩), .func (.func 35) #[] bnd] w fun e w' => e = .returned (.agg st0.toArray) ∧ ∃ a'' r'' c'', St w0 X (pZ g z' (some a'') c'' :: pL r'' (some a'') c'' z' :: (M' ++ L)) w' := by
 have CN : Hid (∀ (g4 : Nat) (w : World), St w0 X (.blk g4 32 st0 :: pZ g z (some a) cc :: pL r (some a) cc z :: (M ++ L)) w → Calls Try.prog 42 #[.pointer (some ⟨g, 0, none⟩)] w fun e w' => e = .returned (.bool false) ∧ St w0 X (.blk g4 32 st0 :: pZ g z (some a) cc :: pL r (some a) cc z :: (M ++ L)) w') := Lib.hid (fun g4 w hs => (none_st hs.u11 (by simp)).mono (by
  rintro e w' ⟨h1, h2⟩
  exact ⟨h1, h2.u11⟩))
 have CC : Hid (∀ (g4 : Nat) (w : World), St w0 X (.blk g4 32 st0 :: pZ g z (some a) cc :: pL r (some a) cc z :: (M ++ L)) w → Calls Try.prog 24 #[.pointer (some ⟨g, 0, none⟩)] w fun e w' => ∃ g' a' r' c', e = .returned (.pointer (some ⟨g', 0, none⟩)) ∧ St w0 X (pZ g' z (some a') c' :: pL r' (some a') c' z :: .blk g4 32 st0 :: pZ g z (some a) cc :: pL r (some a) cc z :: (M ++ L)) w') := Lib.hid (fun g4 w hs => (copy_st hs.u11 (Reads.own 1 rfl) hn hle).mono (by
  rintro e w' ⟨g', a', r', c', h1, h2⟩
  exact ⟨g', a', r', c', h1, h2.perm (List.Perm.cons _ (List.Perm.cons _ (List.Perm.swap _ _ _)))⟩))
 have CH : Hid (∀ (g4 g' : Nat) (a' : Addr) (r' : Option Nat) (c' : Nat) (w : World), St w0 X (pZ g' z (some a') c' :: pL r' (some a') c' z :: .blk g4 32 st0 :: pZ g z (some a) cc :: pL r (some a) cc z :: (M ++ L)) w → Calls Try.prog 35 (#[.pointer (some ⟨g', 0, none⟩)] ++ bnd) w fun e w' => e = .returned (.tuple #[]) ∧ ∃ a'' r'' c'', St w0 X (pZ g' z' (some a'') c'' :: pL r'' (some a'') c'' z' :: .blk g4 32 st0 :: pZ g z (some a) cc :: pL r (some a) cc z :: (M' ++ L)) w') := Lib.hid (fun g4 g' a' r' c' w hs => (HC (.blk g4 32 st0 :: pZ g z (some a) cc :: pL r (some a) cc z :: L) g' a' r' c' w (hs.perm (List.Perm.cons _ (List.Perm.cons _ (List.perm_append_comm_assoc [_, _, _] M L))))).mono (by
  rintro e w' ⟨h1, a'', r'', c'', h2⟩
  exact ⟨h1, a'', r'', c'', h2.perm (List.Perm.cons _ (List.Perm.cons _ (List.perm_append_comm_assoc [_, _, _] M' L).symm))⟩))
 have RN : Hid (∀ (z : Zs) (a : Addr) (c : Nat), (zcl z (some a) c).length = 7) := Lib.hid (fun _ _ _ => rfl)
 have RO : Hid (∀ (z : Zs) (a : Addr) (c : Nat), ∀ v ∈ zcl z (some a) c, v.oneCell' = true) := Lib.hid (fun _ _ _ => zcl_one _ _ _)
 have ZS : Hid ((Try.prog.info? 32).bind (fun i => i.zero.map (·.cells.toList)) = some st0) := Lib.hid zSt
 have SL := Lib.hid (show st0.length = 4 from rfl)
 have SO := Lib.hid (show ∀ v ∈ st0, v.oneCell' = true by simp [st0, Value.oneCell'])
 have MT : Hid (∀ (L : List At) (w : World), St w0 X L w → Calls Try.prog 36 #[.bool true, .int .u8 6] w fun e w' => e = .returned (.tuple #[]) ∧ St w0 X L w') := Lib.hid (fun L w hs => must_t hs 6)
 clear HC hn hle
 go_enter_defers Try.func34, Try.ntmps34
 go_wp2_with (first | ((with_reducible refine Se.isL (o := ⟨some 4, _, _, _, _, _⟩) ?_); (refine Se.toL rfl (Se.al (o := ⟨some 4, _, _, _, _, _⟩) hs rfl (ZS.out) ?_); clear hs; rintro w g4 - hs)) | ((with_reducible refine Se.isL (o := ⟨some 18, _, _, _, _, _⟩) ?_); (refine Se.toL rfl (Se.ldw (o := ⟨some 18, _, _, _, _, _⟩) hs rfl rfl ((Reads.blk 0 rfl)) ((by rw [RN.out]; kernel_rfl)) (by kernel_rfl) ?_))) | ((with_reducible refine Se.isL (o := ⟨none, Op.store 71 _ _, _, _, _, _⟩) ?_); (refine Se.toL rfl (Se.sow 3 hs rfl rfl rfl rfl ((RO.out _ _ _)) ((by rw [RN.out]; kernel_rfl)) ((by rw [RN.out, RN.out])) ?_); clear hs; intro w hs; try simp only [List.cons_append, List.nil_append, List.set_cons_zero, List.set_cons_succ] at hs)) | ((with_reducible refine Se.isL (o := ⟨some 20, _, _, _, _, _⟩) ?_); (refine Se.toL rfl (Se.ldw (o := ⟨some 20, _, _, _, _, _⟩) hs rfl rfl ((Reads.blk 2 rfl)) ((by rw [SL.out]; kernel_rfl)) (by kernel_rfl) ?_))) | ((with_reducible refine Se.isL (o := ⟨none, Op.store 32 _ _, _, _, _, _⟩) ?_); (refine Se.toL rfl (Se.sow 2 hs rfl rfl rfl rfl (SO.out) ((by rw [SL.out]; kernel_rfl)) ((by rw [SL.out])) ?_); clear hs; intro w hs; try simp only [List.cons_append, List.nil_append, List.set_cons_zero, List.set_cons_succ] at hs)) | (go_at_call 42; refine Calls.mono (CN.out _ _ hs) ?_; clear hs; rintro e w ⟨rfl, hs⟩) | (go_at_call 36; refine Calls.mono (MT.out _ _ hs) ?_; clear hs; rintro e w ⟨rfl, hs⟩) | (go_at_call 24; refine Calls.mono (CC.out _ _ hs) ?_; clear hs; rintro e w ⟨g', a', r', c', rfl, hs⟩) | (go_at_call 35; refine Calls.mono (CH.out _ _ _ _ _ _ hs) ?_; clear hs; rintro e w ⟨rfl, a'', r'', c'', hs⟩))
 refine leaves_cons (f := 41) (args := #[.pointer (some ⟨g4, 0, none⟩)]) (by simp) (by simp [go_sem]) ?_
 refine (caught_idle g4 hs).mono ?_
 rintro e u' w'' ⟨rfl, rfl, hs⟩
 refine ⟨_, run_results_row hs Try.results34 rfl (Reads.blk 2 rfl) (by kernel_rfl) (by rw [SL.out] <;> kernel_rfl), ?_⟩
 refine ⟨rfl, a'', r'', c'', ?_⟩
 replace hs := hs.pull 4 rfl
 replace hs := hs.pull 3 rfl
 replace hs := hs.pull 2 rfl
 replace hs := hs.pull 3 rfl
 replace hs := hs.pull 4 rfl
 simp only [List.eraseIdx_cons_succ, List.eraseIdx_cons_zero] at hs
 exact hs.sub (List.Sublist.cons_cons _ (List.Sublist.cons_cons _ (.cons _ (.cons _ (.cons _ (List.Sublist.refl _))))))
theorem try_w_bad {g cc : Nat} {a : Addr} {r : Option Nat} {z : Zs} {M M' : List At} (hs : St w0 X (pZ g z (some a) cc :: pL r (some a) cc z :: (M ++ L)) w) (hn : 1 ≤ z.l.length) (hle : z.l.length ≤ 4194304) (bnd : Array Value) (k : Nat)
  (HC : ∀ (T : List At) (g' : Nat) (a' : Addr) (r' : Option Nat) (c' : Nat) (w : World), St w0 X (pZ g' z (some a') c' :: pL r' (some a') c' z :: (M ++ T)) w → Calls Try.prog 35 (#[.pointer (some ⟨g', 0, none⟩)] ++ bnd) w fun e w' => e = .panicked (chS k) ∧ St w0 X (M' ++ T) w') :
  Calls Try.prog 34 #[.pointer (some ⟨g, 0, none⟩), .func (.func 35) #[] bnd] w fun e w' => e = .returned (.agg (stl k).toArray) ∧ St w0 X (pZ g z (some a) cc :: pL r (some a) cc z :: (M' ++ L)) w' := by
 have CN : Hid (∀ (g4 : Nat) (w : World), St w0 X (.blk g4 32 st0 :: pZ g z (some a) cc :: pL r (some a) cc z :: (M ++ L)) w → Calls Try.prog 42 #[.pointer (some ⟨g, 0, none⟩)] w fun e w' => e = .returned (.bool false) ∧ St w0 X (.blk g4 32 st0 :: pZ g z (some a) cc :: pL r (some a) cc z :: (M ++ L)) w') := Lib.hid (fun g4 w hs => (none_st hs.u11 (by simp)).mono (by
  rintro e w' ⟨h1, h2⟩
  exact ⟨h1, h2.u11⟩))
 have CC : Hid (∀ (g4 : Nat) (w : World), St w0 X (.blk g4 32 st0 :: pZ g z (some a) cc :: pL r (some a) cc z :: (M ++ L)) w → Calls Try.prog 24 #[.pointer (some ⟨g, 0, none⟩)] w fun e w' => ∃ g' a' r' c', e = .returned (.pointer (some ⟨g', 0, none⟩)) ∧ St w0 X (pZ g' z (some a') c' :: pL r' (some a') c' z :: .blk g4 32 st0 :: pZ g z (some a) cc :: pL r (some a) cc z :: (M ++ L)) w') := Lib.hid (fun g4 w hs => (copy_st hs.u11 (Reads.own 1 rfl) hn hle).mono (by
  rintro e w' ⟨g', a', r', c', h1, h2⟩
  exact ⟨g', a', r', c', h1, h2.perm (List.Perm.cons _ (List.Perm.cons _ (List.Perm.swap _ _ _)))⟩))
 have CH : Hid (∀ (g4 g' : Nat) (a' : Addr) (r' : Option Nat) (c' : Nat) (w : World), St w0 X (pZ g' z (some a') c' :: pL r' (some a') c' z :: .blk g4 32 st0 :: pZ g z (some a) cc :: pL r (some a) cc z :: (M ++ L)) w → Calls Try.prog 35 (#[.pointer (some ⟨g', 0, none⟩)] ++ bnd) w fun e w' => e = .panicked (chS k) ∧ St w0 X (.blk g4 32 st0 :: pZ g z (some a) cc :: pL r (some a) cc z :: (M' ++ L)) w') := Lib.hid (fun g4 g' a' r' c' w hs => (HC (.blk g4 32 st0 :: pZ g z (some a) cc :: pL r (some a) cc z :: L) g' a' r' c' w (hs.perm (List.Perm.cons _ (List.Perm.cons _ (List.perm_append_comm_assoc [_, _, _] M L))))).mono (by
  rintro e w' ⟨h1, h2⟩
  exact ⟨h1, h2.perm (List.perm_append_comm_assoc [_, _, _] M' L).symm⟩))
 have ZS : Hid ((Try.prog.info? 32).bind (fun i => i.zero.map (·.cells.toList)) = some st0) := Lib.hid zSt
 have MT : Hid (∀ (L : List At) (w : World), St w0 X L w → Calls Try.prog 36 #[.bool true, .int .u8 6] w fun e w' => e = .returned (.tuple #[]) ∧ St w0 X L w') := Lib.hid (fun L w hs => must_t hs 6)
 have KL := Lib.hid (stl_len k)
 clear HC hn hle
 go_enter_defers Try.func34, Try.ntmps34
 go_wp2_with (first | ((with_reducible refine Se.isL (o := ⟨some 4, _, _, _, _, _⟩) ?_); (refine Se.toL rfl (Se.al (o := ⟨some 4, _, _, _, _, _⟩) hs rfl (ZS.out) ?_); clear hs; rintro w g4 - hs)) | (go_at_call 42; refine Calls.mono (CN.out _ _ hs) ?_; clear hs; rintro e w ⟨rfl, hs⟩) | (go_at_call 36; refine Calls.mono (MT.out _ _ hs) ?_; clear hs; rintro e w ⟨rfl, hs⟩) | (go_at_call 24; refine Calls.mono (CC.out _ _ hs) ?_; clear hs; rintro e w ⟨g', a', r', c', rfl, hs⟩) | (go_at_call 35; refine Calls.mono (CH.out _ _ _ _ _ _ hs) ?_; clear hs; rintro e w ⟨rfl, hs⟩))
 refine leaves_cons (f := 41) (args := #[.pointer (some ⟨g4, 0, none⟩)]) (by simp) (by simp [go_sem]) ?_
 refine (caught_panic k g4 rfl hs).mono ?_
 rintro e' u' w'' ⟨rfl, rfl, hs⟩
 refine ⟨_, run_results_row hs Try.results34 rfl (Reads.blk 0 rfl) (by kernel_rfl) (by rw [KL.out] <;> kernel_rfl), ?_⟩
 exact ⟨rfl, hs.drop⟩
theorem try_a_ok {g cc : Nat} {a : Addr} {r : Option Nat} {z z' : Zs} {M M' : List At} (hs : St w0 X (pZ g z (some a) cc :: pL r (some a) cc z :: (M ++ L)) w) (hn : 1 ≤ z.l.length) (hle : z.l.length ≤ 4194304) (bnd : Array Value)
  (HC : ∀ (T : List At) (g' : Nat) (a' : Addr) (r' : Option Nat) (c' : Nat) (w : World), St w0 X (pZ g' z (some a') c' :: pL r' (some a') c' z :: (M ++ T)) w → Calls Try.prog 72 (#[.pointer (some ⟨g', 0, none⟩)] ++ bnd) w fun e w' => e = .returned (.tuple #[]) ∧ ∃ a'' r'' c'', St w0 X (pZ g' z' (some a'') c'' :: pL r'' (some a'') c'' z' :: (M' ++ T)) w') :
  Calls Try.prog 34 #[.pointer (some ⟨g, 0, none⟩), .func (.func 72) #[] bnd] w fun e w' => e = .returned (.agg st0.toArray) ∧ ∃ a'' r'' c'', St w0 X (pZ g z' (some a'') c'' :: pL r'' (some a'') c'' z' :: (M' ++ L)) w' := by
 have CN : Hid (∀ (g4 : Nat) (w : World), St w0 X (.blk g4 32 st0 :: pZ g z (some a) cc :: pL r (some a) cc z :: (M ++ L)) w → Calls Try.prog 42 #[.pointer (some ⟨g, 0, none⟩)] w fun e w' => e = .returned (.bool false) ∧ St w0 X (.blk g4 32 st0 :: pZ g z (some a) cc :: pL r (some a) cc z :: (M ++ L)) w') := Lib.hid (fun g4 w hs => (none_st hs.u11 (by simp)).mono (by
  rintro e w' ⟨h1, h2⟩
  exact ⟨h1, h2.u11⟩))
 have CC : Hid (∀ (g4 : Nat) (w : World), St w0 X (.blk g4 32 st0 :: pZ g z (some a) cc :: pL r (some a) cc z :: (M ++ L)) w → Calls Try.prog 24 #[.pointer (some ⟨g, 0, none⟩)] w fun e w' => ∃ g' a' r' c', e = .returned (.pointer (some ⟨g', 0, none⟩)) ∧ St w0 X (pZ g' z (some a') c' :: pL r' (some a') c' z :: .blk g4 32 st0 :: pZ g z (some a) cc :: pL r (some a) cc z :: (M ++ L)) w') := Lib.hid (fun g4 w hs => (copy_st hs.u11 (Reads.own 1 rfl) hn hle).mono (by
  rintro e w' ⟨g', a', r', c', h1, h2⟩
  exact ⟨g', a', r', c', h1, h2.perm (List.Perm.cons _ (List.Perm.cons _ (List.Perm.swap _ _ _)))⟩))
 have CH : Hid (∀ (g4 g' : Nat) (a' : Addr) (r' : Option Nat) (c' : Nat) (w : World), St w0 X (pZ g' z (some a') c' :: pL r' (some a') c' z :: .blk g4 32 st0 :: pZ g z (some a) cc :: pL r (some a) cc z :: (M ++ L)) w → Calls Try.prog 72 (#[.pointer (some ⟨g', 0, none⟩)] ++ bnd) w fun e w' => e = .returned (.tuple #[]) ∧ ∃ a'' r'' c'', St w0 X (pZ g' z' (some a'') c'' :: pL r'' (some a'') c'' z' :: .blk g4 32 st0 :: pZ g z (some a) cc :: pL r (some a) cc z :: (M' ++ L)) w') := Lib.hid (fun g4 g' a' r' c' w hs => (HC (.blk g4 32 st0 :: pZ g z (some a) cc :: pL r (some a) cc z :: L) g' a' r' c' w (hs.perm (List.Perm.cons _ (List.Perm.cons _ (List.perm_append_comm_assoc [_, _, _] M L))))).mono (by
  rintro e w' ⟨h1, a'', r'', c'', h2⟩
  exact ⟨h1, a'', r'', c'', h2.perm (List.Perm.cons _ (List.Perm.cons _ (List.perm_append_comm_assoc [_, _, _] M' L).symm))⟩))
 have RN : Hid (∀ (z : Zs) (a : Addr) (c : Nat), (zcl z (some a) c).length = 7) := Lib.hid (fun _ _ _ => rfl)
 have RO : Hid (∀ (z : Zs) (a : Addr) (c : Nat), ∀ v ∈ zcl z (some a) c, v.oneCell' = true) := Lib.hid (fun _ _ _ => zcl_one _ _ _)
 have ZS : Hid ((Try.prog.info? 32).bind (fun i => i.zero.map (·.cells.toList)) = some st0) := Lib.hid zSt
 have SL := Lib.hid (show st0.length = 4 from rfl)
 have SO := Lib.hid (show ∀ v ∈ st0, v.oneCell' = true by simp [st0, Value.oneCell'])
 have MT : Hid (∀ (L : List At) (w : World), St w0 X L w → Calls Try.prog 36 #[.bool true, .int .u8 6] w fun e w' => e = .returned (.tuple #[]) ∧ St w0 X L w') := Lib.hid (fun L w hs => must_t hs 6)
 clear HC hn hle
 go_enter_defers Try.func34, Try.ntmps34
 go_wp2_with (first | ((with_reducible refine Se.isL (o := ⟨some 4, _, _, _, _, _⟩) ?_); (refine Se.toL rfl (Se.al (o := ⟨some 4, _, _, _, _, _⟩) hs rfl (ZS.out) ?_); clear hs; rintro w g4 - hs)) | ((with_reducible refine Se.isL (o := ⟨some 18, _, _, _, _, _⟩) ?_); (refine Se.toL rfl (Se.ldw (o := ⟨some 18, _, _, _, _, _⟩) hs rfl rfl ((Reads.blk 0 rfl)) ((by rw [RN.out]; kernel_rfl)) (by kernel_rfl) ?_))) | ((with_reducible refine Se.isL (o := ⟨none, Op.store 71 _ _, _, _, _, _⟩) ?_); (refine Se.toL rfl (Se.sow 3 hs rfl rfl rfl rfl ((RO.out _ _ _)) ((by rw [RN.out]; kernel_rfl)) ((by rw [RN.out, RN.out])) ?_); clear hs; intro w hs; try simp only [List.cons_append, List.nil_append, List.set_cons_zero, List.set_cons_succ] at hs)) | ((with_reducible refine Se.isL (o := ⟨some 20, _, _, _, _, _⟩) ?_); (refine Se.toL rfl (Se.ldw (o := ⟨some 20, _, _, _, _, _⟩) hs rfl rfl ((Reads.blk 2 rfl)) ((by rw [SL.out]; kernel_rfl)) (by kernel_rfl) ?_))) | ((with_reducible refine Se.isL (o := ⟨none, Op.store 32 _ _, _, _, _, _⟩) ?_); (refine Se.toL rfl (Se.sow 2 hs rfl rfl rfl rfl (SO.out) ((by rw [SL.out]; kernel_rfl)) ((by rw [SL.out])) ?_); clear hs; intro w hs; try simp only [List.cons_append, List.nil_append, List.set_cons_zero, List.set_cons_succ] at hs)) | (go_at_call 42; refine Calls.mono (CN.out _ _ hs) ?_; clear hs; rintro e w ⟨rfl, hs⟩) | (go_at_call 36; refine Calls.mono (MT.out _ _ hs) ?_; clear hs; rintro e w ⟨rfl, hs⟩) | (go_at_call 24; refine Calls.mono (CC.out _ _ hs) ?_; clear hs; rintro e w ⟨g', a', r', c', rfl, hs⟩) | (go_at_call 72; refine Calls.mono (CH.out _ _ _ _ _ _ hs) ?_; clear hs; rintro e w ⟨rfl, a'', r'', c'', hs⟩))
 refine leaves_cons (f := 41) (args := #[.pointer (some ⟨g4, 0, none⟩)]) (by simp) (by simp [go_sem]) ?_
 refine (caught_idle g4 hs).mono ?_
 rintro e u' w'' ⟨rfl, rfl, hs⟩
 refine ⟨_, run_results_row hs Try.results34 rfl (Reads.blk 2 rfl) (by kernel_rfl) (by rw [SL.out] <;> kernel_rfl), ?_⟩
 refine ⟨rfl, a'', r'', c'', ?_⟩
 replace hs := hs.pull 4 rfl
 replace hs := hs.pull 3 rfl
 replace hs := hs.pull 2 rfl
 replace hs := hs.pull 3 rfl
 replace hs := hs.pull 4 rfl
 simp only [List.eraseIdx_cons_succ, List.eraseIdx_cons_zero] at hs
 exact hs.sub (List.Sublist.cons_cons _ (List.Sublist.cons_cons _ (.cons _ (.cons _ (.cons _ (List.Sublist.refl _))))))
theorem try_a_bad {g cc : Nat} {a : Addr} {r : Option Nat} {z : Zs} {M M' : List At} (hs : St w0 X (pZ g z (some a) cc :: pL r (some a) cc z :: (M ++ L)) w) (hn : 1 ≤ z.l.length) (hle : z.l.length ≤ 4194304) (bnd : Array Value) (k : Nat)
  (HC : ∀ (T : List At) (g' : Nat) (a' : Addr) (r' : Option Nat) (c' : Nat) (w : World), St w0 X (pZ g' z (some a') c' :: pL r' (some a') c' z :: (M ++ T)) w → Calls Try.prog 72 (#[.pointer (some ⟨g', 0, none⟩)] ++ bnd) w fun e w' => e = .panicked (chS k) ∧ St w0 X (M' ++ T) w') :
  Calls Try.prog 34 #[.pointer (some ⟨g, 0, none⟩), .func (.func 72) #[] bnd] w fun e w' => e = .returned (.agg (stl k).toArray) ∧ St w0 X (pZ g z (some a) cc :: pL r (some a) cc z :: (M' ++ L)) w' := by
 have CN : Hid (∀ (g4 : Nat) (w : World), St w0 X (.blk g4 32 st0 :: pZ g z (some a) cc :: pL r (some a) cc z :: (M ++ L)) w → Calls Try.prog 42 #[.pointer (some ⟨g, 0, none⟩)] w fun e w' => e = .returned (.bool false) ∧ St w0 X (.blk g4 32 st0 :: pZ g z (some a) cc :: pL r (some a) cc z :: (M ++ L)) w') := Lib.hid (fun g4 w hs => (none_st hs.u11 (by simp)).mono (by
  rintro e w' ⟨h1, h2⟩
  exact ⟨h1, h2.u11⟩))
 have CC : Hid (∀ (g4 : Nat) (w : World), St w0 X (.blk g4 32 st0 :: pZ g z (some a) cc :: pL r (some a) cc z :: (M ++ L)) w → Calls Try.prog 24 #[.pointer (some ⟨g, 0, none⟩)] w fun e w' => ∃ g' a' r' c', e = .returned (.pointer (some ⟨g', 0, none⟩)) ∧ St w0 X (pZ g' z (some a') c' :: pL r' (some a') c' z :: .blk g4 32 st0 :: pZ g z (some a) cc :: pL r (some a) cc z :: (M ++ L)) w') := Lib.hid (fun g4 w hs => (copy_st hs.u11 (Reads.own 1 rfl) hn hle).mono (by
  rintro e w' ⟨g', a', r', c', h1, h2⟩
  exact ⟨g', a', r', c', h1, h2.perm (List.Perm.cons _ (List.Perm.cons _ (List.Perm.swap _ _ _)))⟩))
 have CH : Hid (∀ (g4 g' : Nat) (a' : Addr) (r' : Option Nat) (c' : Nat) (w : World), St w0 X (pZ g' z (some a') c' :: pL r' (some a') c' z :: .blk g4 32 st0 :: pZ g z (some a) cc :: pL r (some a) cc z :: (M ++ L)) w → Calls Try.prog 72 (#[.pointer (some ⟨g', 0, none⟩)] ++ bnd) w fun e w' => e = .panicked (chS k) ∧ St w0 X (.blk g4 32 st0 :: pZ g z (some a) cc :: pL r (some a) cc z :: (M' ++ L)) w') := Lib.hid (fun g4 g' a' r' c' w hs => (HC (.blk g4 32 st0 :: pZ g z (some a) cc :: pL r (some a) cc z :: L) g' a' r' c' w (hs.perm (List.Perm.cons _ (List.Perm.cons _ (List.perm_append_comm_assoc [_, _, _] M L))))).mono (by
  rintro e w' ⟨h1, h2⟩
  exact ⟨h1, h2.perm (List.perm_append_comm_assoc [_, _, _] M' L).symm⟩))
 have ZS : Hid ((Try.prog.info? 32).bind (fun i => i.zero.map (·.cells.toList)) = some st0) := Lib.hid zSt
 have MT : Hid (∀ (L : List At) (w : World), St w0 X L w → Calls Try.prog 36 #[.bool true, .int .u8 6] w fun e w' => e = .returned (.tuple #[]) ∧ St w0 X L w') := Lib.hid (fun L w hs => must_t hs 6)
 have KL := Lib.hid (stl_len k)
 clear HC hn hle
 go_enter_defers Try.func34, Try.ntmps34
 go_wp2_with (first | ((with_reducible refine Se.isL (o := ⟨some 4, _, _, _, _, _⟩) ?_); (refine Se.toL rfl (Se.al (o := ⟨some 4, _, _, _, _, _⟩) hs rfl (ZS.out) ?_); clear hs; rintro w g4 - hs)) | (go_at_call 42; refine Calls.mono (CN.out _ _ hs) ?_; clear hs; rintro e w ⟨rfl, hs⟩) | (go_at_call 36; refine Calls.mono (MT.out _ _ hs) ?_; clear hs; rintro e w ⟨rfl, hs⟩) | (go_at_call 24; refine Calls.mono (CC.out _ _ hs) ?_; clear hs; rintro e w ⟨g', a', r', c', rfl, hs⟩) | (go_at_call 72; refine Calls.mono (CH.out _ _ _ _ _ _ hs) ?_; clear hs; rintro e w ⟨rfl, hs⟩))
 refine leaves_cons (f := 41) (args := #[.pointer (some ⟨g4, 0, none⟩)]) (by simp) (by simp [go_sem]) ?_
 refine (caught_panic k g4 rfl hs).mono ?_
 rintro e' u' w'' ⟨rfl, rfl, hs⟩
 refine ⟨_, run_results_row hs Try.results34 rfl (Reads.blk 0 rfl) (by kernel_rfl) (by rw [KL.out] <;> kernel_rfl), ?_⟩
 exact ⟨rfl, hs.drop⟩
theorem try_m_ok {g cc : Nat} {a : Addr} {r : Option Nat} {z z' : Zs} {M M' : List At} (hs : St w0 X (pZ g z (some a) cc :: pL r (some a) cc z :: (M ++ L)) w) (hn : 1 ≤ z.l.length) (hle : z.l.length ≤ 4194304) (bnd : Array Value)
  (HC : ∀ (T : List At) (g' : Nat) (a' : Addr) (r' : Option Nat) (c' : Nat) (w : World), St w0 X (pZ g' z (some a') c' :: pL r' (some a') c' z :: (M ++ T)) w → Calls Try.prog 44 (#[.pointer (some ⟨g', 0, none⟩)] ++ bnd) w fun e w' => e = .returned (.tuple #[]) ∧ ∃ a'' r'' c'', St w0 X (pZ g' z' (some a'') c'' :: pL r'' (some a'') c'' z' :: (M' ++ T)) w') :
  Calls Try.prog 34 #[.pointer (some ⟨g, 0, none⟩), .func (.func 44) #[] bnd] w fun e w' => e = .returned (.agg st0.toArray) ∧ ∃ a'' r'' c'', St w0 X (pZ g z' (some a'') c'' :: pL r'' (some a'') c'' z' :: (M' ++ L)) w' := by
 have CN : Hid (∀ (g4 : Nat) (w : World), St w0 X (.blk g4 32 st0 :: pZ g z (some a) cc :: pL r (some a) cc z :: (M ++ L)) w → Calls Try.prog 42 #[.pointer (some ⟨g, 0, none⟩)] w fun e w' => e = .returned (.bool false) ∧ St w0 X (.blk g4 32 st0 :: pZ g z (some a) cc :: pL r (some a) cc z :: (M ++ L)) w') := Lib.hid (fun g4 w hs => (none_st hs.u11 (by simp)).mono (by
  rintro e w' ⟨h1, h2⟩
  exact ⟨h1, h2.u11⟩))
 have CC : Hid (∀ (g4 : Nat) (w : World), St w0 X (.blk g4 32 st0 :: pZ g z (some a) cc :: pL r (some a) cc z :: (M ++ L)) w → Calls Try.prog 24 #[.pointer (some ⟨g, 0, none⟩)] w fun e w' => ∃ g' a' r' c', e = .returned (.pointer (some ⟨g', 0, none⟩)) ∧ St w0 X (pZ g' z (some a') c' :: pL r' (some a') c' z :: .blk g4 32 st0 :: pZ g z (some a) cc :: pL r (some a) cc z :: (M ++ L)) w') := Lib.hid (fun g4 w hs => (copy_st hs.u11 (Reads.own 1 rfl) hn hle).mono (by
  rintro e w' ⟨g', a', r', c', h1, h2⟩
  exact ⟨g', a', r', c', h1, h2.perm (List.Perm.cons _ (List.Perm.cons _ (List.Perm.swap _ _ _)))⟩))
 have CH : Hid (∀ (g4 g' : Nat) (a' : Addr) (r' : Option Nat) (c' : Nat) (w : World), St w0 X (pZ g' z (some a') c' :: pL r' (some a') c' z :: .blk g4 32 st0 :: pZ g z (some a) cc :: pL r (some a) cc z :: (M ++ L)) w → Calls Try.prog 44 (#[.pointer (some ⟨g', 0, none⟩)] ++ bnd) w fun e w' => e = .returned (.tuple #[]) ∧ ∃ a'' r'' c'', St w0 X (pZ g' z' (some a'') c'' :: pL r'' (some a'') c'' z' :: .blk g4 32 st0 :: pZ g z (some a) cc :: pL r (some a) cc z :: (M' ++ L)) w') := Lib.hid (fun g4 g' a' r' c' w hs => (HC (.blk g4 32 st0 :: pZ g z (some a) cc :: pL r (some a) cc z :: L) g' a' r' c' w (hs.perm (List.Perm.cons _ (List.Perm.cons _ (List.perm_append_comm_assoc [_, _, _] M L))))).mono (by
  rintro e w' ⟨h1, a'', r'', c'', h2⟩
  exact ⟨h1, a'', r'', c'', h2.perm (List.Perm.cons _ (List.Perm.cons _ (List.perm_append_comm_assoc [_, _, _] M' L).symm))⟩))
 have RN : Hid (∀ (z : Zs) (a : Addr) (c : Nat), (zcl z (some a) c).length = 7) := Lib.hid (fun _ _ _ => rfl)
 have RO : Hid (∀ (z : Zs) (a : Addr) (c : Nat), ∀ v ∈ zcl z (some a) c, v.oneCell' = true) := Lib.hid (fun _ _ _ => zcl_one _ _ _)
 have ZS : Hid ((Try.prog.info? 32).bind (fun i => i.zero.map (·.cells.toList)) = some st0) := Lib.hid zSt
 have SL := Lib.hid (show st0.length = 4 from rfl)
 have SO := Lib.hid (show ∀ v ∈ st0, v.oneCell' = true by simp [st0, Value.oneCell'])
 have MT : Hid (∀ (L : List At) (w : World), St w0 X L w → Calls Try.prog 36 #[.bool true, .int .u8 6] w fun e w' => e = .returned (.tuple #[]) ∧ St w0 X L w') := Lib.hid (fun L w hs => must_t hs 6)
 clear HC hn hle
 go_enter_defers Try.func34, Try.ntmps34
 go_wp2_with (first | ((with_reducible refine Se.isL (o := ⟨some 4, _, _, _, _, _⟩) ?_); (refine Se.toL rfl (Se.al (o := ⟨some 4, _, _, _, _, _⟩) hs rfl (ZS.out) ?_); clear hs; rintro w g4 - hs)) | ((with_reducible refine Se.isL (o := ⟨some 18, _, _, _, _, _⟩) ?_); (refine Se.toL rfl (Se.ldw (o := ⟨some 18, _, _, _, _, _⟩) hs rfl rfl ((Reads.blk 0 rfl)) ((by rw [RN.out]; kernel_rfl)) (by kernel_rfl) ?_))) | ((with_reducible refine Se.isL (o := ⟨none, Op.store 71 _ _, _, _, _, _⟩) ?_); (refine Se.toL rfl (Se.sow 3 hs rfl rfl rfl rfl ((RO.out _ _ _)) ((by rw [RN.out]; kernel_rfl)) ((by rw [RN.out, RN.out])) ?_); clear hs; intro w hs; try simp only [List.cons_append, List.nil_append, List.set_cons_zero, List.set_cons_succ] at hs)) | ((with_reducible refine Se.isL (o := ⟨some 20, _, _, _, _, _⟩) ?_); (refine Se.toL rfl (Se.ldw (o := ⟨some 20, _, _, _, _, _⟩) hs rfl rfl ((Reads.blk 2 rfl)) ((by rw [SL.out]; kernel_rfl)) (by kernel_rfl) ?_))) | ((with_reducible refine Se.isL (o := ⟨none, Op.store 32 _ _, _, _, _, _⟩) ?_); (refine Se.toL rfl (Se.sow 2 hs rfl rfl rfl rfl (SO.out) ((by rw [SL.out]; kernel_rfl)) ((by rw [SL.out])) ?_); clear hs; intro w hs; try simp only [List.cons_append, List.nil_append, List.set_cons_zero, List.set_cons_succ] at hs)) | (go_at_call 42; refine Calls.mono (CN.out _ _ hs) ?_; clear hs; rintro e w ⟨rfl, hs⟩) | (go_at_call 36; refine Calls.mono (MT.out _ _ hs) ?_; clear hs; rintro e w ⟨rfl, hs⟩) | (go_at_call 24; refine Calls.mono (CC.out _ _ hs) ?_; clear hs; rintro e w ⟨g', a', r', c', rfl, hs⟩) | (go_at_call 44; refine Calls.mono (CH.out _ _ _ _ _ _ hs) ?_; clear hs; rintro e w ⟨rfl, a'', r'', c'', hs⟩))
 refine leaves_cons (f := 41) (args := #[.pointer (some ⟨g4, 0, none⟩)]) (by simp) (by simp [go_sem]) ?_
 refine (caught_idle g4 hs).mono ?_
 rintro e u' w'' ⟨rfl, rfl, hs⟩
 refine ⟨_, run_results_row hs Try.results34 rfl (Reads.blk 2 rfl) (by kernel_rfl) (by rw [SL.out] <;> kernel_rfl), ?_⟩
 refine ⟨rfl, a'', r'', c'', ?_⟩
 replace hs := hs.pull 4 rfl
 replace hs := hs.pull 3 rfl
 replace hs := hs.pull 2 rfl
 replace hs := hs.pull 3 rfl
 replace hs := hs.pull 4 rfl
 simp only [List.eraseIdx_cons_succ, List.eraseIdx_cons_zero] at hs
 exact hs.sub (List.Sublist.cons_cons _ (List.Sublist.cons_cons _ (.cons _ (.cons _ (.cons _ (List.Sublist.refl _))))))
theorem try_m_bad {g cc : Nat} {a : Addr} {r : Option Nat} {z : Zs} {M M' : List At} (hs : St w0 X (pZ g z (some a) cc :: pL r (some a) cc z :: (M ++ L)) w) (hn : 1 ≤ z.l.length) (hle : z.l.length ≤ 4194304) (bnd : Array Value) (k : Nat)
  (HC : ∀ (T : List At) (g' : Nat) (a' : Addr) (r' : Option Nat) (c' : Nat) (w : World), St w0 X (pZ g' z (some a') c' :: pL r' (some a') c' z :: (M ++ T)) w → Calls Try.prog 44 (#[.pointer (some ⟨g', 0, none⟩)] ++ bnd) w fun e w' => e = .panicked (chS k) ∧ St w0 X (M' ++ T) w') :
  Calls Try.prog 34 #[.pointer (some ⟨g, 0, none⟩), .func (.func 44) #[] bnd] w fun e w' => e = .returned (.agg (stl k).toArray) ∧ St w0 X (pZ g z (some a) cc :: pL r (some a) cc z :: (M' ++ L)) w' := by
 have CN : Hid (∀ (g4 : Nat) (w : World), St w0 X (.blk g4 32 st0 :: pZ g z (some a) cc :: pL r (some a) cc z :: (M ++ L)) w → Calls Try.prog 42 #[.pointer (some ⟨g, 0, none⟩)] w fun e w' => e = .returned (.bool false) ∧ St w0 X (.blk g4 32 st0 :: pZ g z (some a) cc :: pL r (some a) cc z :: (M ++ L)) w') := Lib.hid (fun g4 w hs => (none_st hs.u11 (by simp)).mono (by
  rintro e w' ⟨h1, h2⟩
  exact ⟨h1, h2.u11⟩))
 have CC : Hid (∀ (g4 : Nat) (w : World), St w0 X (.blk g4 32 st0 :: pZ g z (some a) cc :: pL r (some a) cc z :: (M ++ L)) w → Calls Try.prog 24 #[.pointer (some ⟨g, 0, none⟩)] w fun e w' => ∃ g' a' r' c', e = .returned (.pointer (some ⟨g', 0, none⟩)) ∧ St w0 X (pZ g' z (some a') c' :: pL r' (some a') c' z :: .blk g4 32 st0 :: pZ g z (some a) cc :: pL r (some a) cc z :: (M ++ L)) w') := Lib.hid (fun g4 w hs => (copy_st hs.u11 (Reads.own 1 rfl) hn hle).mono (by
  rintro e w' ⟨g', a', r', c', h1, h2⟩
  exact ⟨g', a', r', c', h1, h2.perm (List.Perm.cons _ (List.Perm.cons _ (List.Perm.swap _ _ _)))⟩))
 have CH : Hid (∀ (g4 g' : Nat) (a' : Addr) (r' : Option Nat) (c' : Nat) (w : World), St w0 X (pZ g' z (some a') c' :: pL r' (some a') c' z :: .blk g4 32 st0 :: pZ g z (some a) cc :: pL r (some a) cc z :: (M ++ L)) w → Calls Try.prog 44 (#[.pointer (some ⟨g', 0, none⟩)] ++ bnd) w fun e w' => e = .panicked (chS k) ∧ St w0 X (.blk g4 32 st0 :: pZ g z (some a) cc :: pL r (some a) cc z :: (M' ++ L)) w') := Lib.hid (fun g4 g' a' r' c' w hs => (HC (.blk g4 32 st0 :: pZ g z (some a) cc :: pL r (some a) cc z :: L) g' a' r' c' w (hs.perm (List.Perm.cons _ (List.Perm.cons _ (List.perm_append_comm_assoc [_, _, _] M L))))).mono (by
  rintro e w' ⟨h1, h2⟩
  exact ⟨h1, h2.perm (List.perm_append_comm_assoc [_, _, _] M' L).symm⟩))
 have ZS : Hid ((Try.prog.info? 32).bind (fun i => i.zero.map (·.cells.toList)) = some st0) := Lib.hid zSt
 have MT : Hid (∀ (L : List At) (w : World), St w0 X L w → Calls Try.prog 36 #[.bool true, .int .u8 6] w fun e w' => e = .returned (.tuple #[]) ∧ St w0 X L w') := Lib.hid (fun L w hs => must_t hs 6)
 have KL := Lib.hid (stl_len k)
 clear HC hn hle
 go_enter_defers Try.func34, Try.ntmps34
 go_wp2_with (first | ((with_reducible refine Se.isL (o := ⟨some 4, _, _, _, _, _⟩) ?_); (refine Se.toL rfl (Se.al (o := ⟨some 4, _, _, _, _, _⟩) hs rfl (ZS.out) ?_); clear hs; rintro w g4 - hs)) | (go_at_call 42; refine Calls.mono (CN.out _ _ hs) ?_; clear hs; rintro e w ⟨rfl, hs⟩) | (go_at_call 36; refine Calls.mono (MT.out _ _ hs) ?_; clear hs; rintro e w ⟨rfl, hs⟩) | (go_at_call 24; refine Calls.mono (CC.out _ _ hs) ?_; clear hs; rintro e w ⟨g', a', r', c', rfl, hs⟩) | (go_at_call 44; refine Calls.mono (CH.out _ _ _ _ _ _ hs) ?_; clear hs; rintro e w ⟨rfl, hs⟩))
 refine leaves_cons (f := 41) (args := #[.pointer (some ⟨g4, 0, none⟩)]) (by simp) (by simp [go_sem]) ?_
 refine (caught_panic k g4 rfl hs).mono ?_
 rintro e' u' w'' ⟨rfl, rfl, hs⟩
 refine ⟨_, run_results_row hs Try.results34 rfl (Reads.blk 0 rfl) (by kernel_rfl) (by rw [KL.out] <;> kernel_rfl), ?_⟩
 exact ⟨rfl, hs.drop⟩
theorem try_l_ok {g cc : Nat} {a : Addr} {r : Option Nat} {z z' : Zs} {M M' : List At} (hs : St w0 X (pZ g z (some a) cc :: pL r (some a) cc z :: (M ++ L)) w) (hn : 1 ≤ z.l.length) (hle : z.l.length ≤ 4194304) (bnd : Array Value)
  (HC : ∀ (T : List At) (g' : Nat) (a' : Addr) (r' : Option Nat) (c' : Nat) (w : World), St w0 X (pZ g' z (some a') c' :: pL r' (some a') c' z :: (M ++ T)) w → Calls Try.prog 60 (#[.pointer (some ⟨g', 0, none⟩)] ++ bnd) w fun e w' => e = .returned (.tuple #[]) ∧ ∃ a'' r'' c'', St w0 X (pZ g' z' (some a'') c'' :: pL r'' (some a'') c'' z' :: (M' ++ T)) w') :
  Calls Try.prog 34 #[.pointer (some ⟨g, 0, none⟩), .func (.func 60) #[] bnd] w fun e w' => e = .returned (.agg st0.toArray) ∧ ∃ a'' r'' c'', St w0 X (pZ g z' (some a'') c'' :: pL r'' (some a'') c'' z' :: (M' ++ L)) w' := by
 have CN : Hid (∀ (g4 : Nat) (w : World), St w0 X (.blk g4 32 st0 :: pZ g z (some a) cc :: pL r (some a) cc z :: (M ++ L)) w → Calls Try.prog 42 #[.pointer (some ⟨g, 0, none⟩)] w fun e w' => e = .returned (.bool false) ∧ St w0 X (.blk g4 32 st0 :: pZ g z (some a) cc :: pL r (some a) cc z :: (M ++ L)) w') := Lib.hid (fun g4 w hs => (none_st hs.u11 (by simp)).mono (by
  rintro e w' ⟨h1, h2⟩
  exact ⟨h1, h2.u11⟩))
 have CC : Hid (∀ (g4 : Nat) (w : World), St w0 X (.blk g4 32 st0 :: pZ g z (some a) cc :: pL r (some a) cc z :: (M ++ L)) w → Calls Try.prog 24 #[.pointer (some ⟨g, 0, none⟩)] w fun e w' => ∃ g' a' r' c', e = .returned (.pointer (some ⟨g', 0, none⟩)) ∧ St w0 X (pZ g' z (some a') c' :: pL r' (some a') c' z :: .blk g4 32 st0 :: pZ g z (some a) cc :: pL r (some a) cc z :: (M ++ L)) w') := Lib.hid (fun g4 w hs => (copy_st hs.u11 (Reads.own 1 rfl) hn hle).mono (by
  rintro e w' ⟨g', a', r', c', h1, h2⟩
  exact ⟨g', a', r', c', h1, h2.perm (List.Perm.cons _ (List.Perm.cons _ (List.Perm.swap _ _ _)))⟩))
 have CH : Hid (∀ (g4 g' : Nat) (a' : Addr) (r' : Option Nat) (c' : Nat) (w : World), St w0 X (pZ g' z (some a') c' :: pL r' (some a') c' z :: .blk g4 32 st0 :: pZ g z (some a) cc :: pL r (some a) cc z :: (M ++ L)) w → Calls Try.prog 60 (#[.pointer (some ⟨g', 0, none⟩)] ++ bnd) w fun e w' => e = .returned (.tuple #[]) ∧ ∃ a'' r'' c'', St w0 X (pZ g' z' (some a'') c'' :: pL r'' (some a'') c'' z' :: .blk g4 32 st0 :: pZ g z (some a) cc :: pL r (some a) cc z :: (M' ++ L)) w') := Lib.hid (fun g4 g' a' r' c' w hs => (HC (.blk g4 32 st0 :: pZ g z (some a) cc :: pL r (some a) cc z :: L) g' a' r' c' w (hs.perm (List.Perm.cons _ (List.Perm.cons _ (List.perm_append_comm_assoc [_, _, _] M L))))).mono (by
  rintro e w' ⟨h1, a'', r'', c'', h2⟩
  exact ⟨h1, a'', r'', c'', h2.perm (List.Perm.cons _ (List.Perm.cons _ (List.perm_append_comm_assoc [_, _, _] M' L).symm))⟩))
 have RN : Hid (∀ (z : Zs) (a : Addr) (c : Nat), (zcl z (some a) c).length = 7) := Lib.hid (fun _ _ _ => rfl)
 have RO : Hid (∀ (z : Zs) (a : Addr) (c : Nat), ∀ v ∈ zcl z (some a) c, v.oneCell' = true) := Lib.hid (fun _ _ _ => zcl_one _ _ _)
 have ZS : Hid ((Try.prog.info? 32).bind (fun i => i.zero.map (·.cells.toList)) = some st0) := Lib.hid zSt
 have SL := Lib.hid (show st0.length = 4 from rfl)
 have SO := Lib.hid (show ∀ v ∈ st0, v.oneCell' = true by simp [st0, Value.oneCell'])
 have MT : Hid (∀ (L : List At) (w : World), St w0 X L w → Calls Try.prog 36 #[.bool true, .int .u8 6] w fun e w' => e = .returned (.tuple #[]) ∧ St w0 X L w') := Lib.hid (fun L w hs => must_t hs 6)
 clear HC hn hle
 go_enter_defers Try.func34, Try.ntmps34
 go_wp2_with (first | ((with_reducible refine Se.isL (o := ⟨some 4, _, _, _, _, _⟩) ?_); (refine Se.toL rfl (Se.al (o := ⟨some 4, _, _, _, _, _⟩) hs rfl (ZS.out) ?_); clear hs; rintro w g4 - hs)) | ((with_reducible refine Se.isL (o := ⟨some 18, _, _, _, _, _⟩) ?_); (refine Se.toL rfl (Se.ldw (o := ⟨some 18, _, _, _, _, _⟩) hs rfl rfl ((Reads.blk 0 rfl)) ((by rw [RN.out]; kernel_rfl)) (by kernel_rfl) ?_))) | ((with_reducible refine Se.isL (o := ⟨none, Op.store 71 _ _, _, _, _, _⟩) ?_); (refine Se.toL rfl (Se.sow 3 hs rfl rfl rfl rfl ((RO.out _ _ _)) ((by rw [RN.out]; kernel_rfl)) ((by rw [RN.out, RN.out])) ?_); clear hs; intro w hs; try simp only [List.cons_append, List.nil_append, List.set_cons_zero, List.set_cons_succ] at hs)) | ((with_reducible refine Se.isL (o := ⟨some 20, _, _, _, _, _⟩) ?_); (refine Se.toL rfl (Se.ldw (o := ⟨some 20, _, _, _, _, _⟩) hs rfl rfl ((Reads.blk 2 rfl)) ((by rw [SL.out]; kernel_rfl)) (by kernel_rfl) ?_))) | ((with_reducible refine Se.isL (o := ⟨none, Op.store 32 _ _, _, _, _, _⟩) ?_); (refine Se.toL rfl (Se.sow 2 hs rfl rfl rfl rfl (SO.out) ((by rw [SL.out]; kernel_rfl)) ((by rw [SL.out])) ?_); clear hs; intro w hs; try simp only [List.cons_append, List.nil_append, List.set_cons_zero, List.set_cons_succ] at hs)) | (go_at_call 42; refine Calls.mono (CN.out _ _ hs) ?_; clear hs; rintro e w ⟨rfl, hs⟩) | (go_at_call 36; refine Calls.mono (MT.out _ _ hs) ?_; clear hs; rintro e w ⟨rfl, hs⟩) | (go_at_call 24; refine Calls.mono (CC.out _ _ hs) ?_; clear hs; rintro e w ⟨g', a', r', c', rfl, hs⟩) | (go_at_call 60; refine Calls.mono (CH.out _ _ _ _ _ _ hs) ?_; clear hs; rintro e w ⟨rfl, a'', r'', c'', hs⟩))
 refine leaves_cons (f := 41) (args := #[.pointer (some ⟨g4, 0, none⟩)]) (by simp) (by simp [go_sem]) ?_
 refine (caught_idle g4 hs).mono ?_
 rintro e u' w'' ⟨rfl, rfl, hs⟩
 refine ⟨_, run_results_row hs Try.results34 rfl (Reads.blk 2 rfl) (by kernel_rfl) (by rw [SL.out] <;> kernel_rfl), ?_⟩
 refine ⟨rfl, a'', r'', c'', ?_⟩
 replace hs := hs.pull 4 rfl
 replace hs := hs.pull 3 rfl
 replace hs := hs.pull 2 rfl
 replace hs := hs.pull 3 rfl
 replace hs := hs.pull 4 rfl
 simp only [List.eraseIdx_cons_succ, List.eraseIdx_cons_zero] at hs
 exact hs.sub (List.Sublist.cons_cons _ (List.Sublist.cons_cons _ (.cons _ (.cons _ (.cons _ (List.Sublist.refl _))))))
theorem try_l_bad {g cc : Nat} {a : Addr} {r : Option Nat} {z : Zs} {M M' : List At} (hs : St w0 X (pZ g z (some a) cc :: pL r (some a) cc z :: (M ++ L)) w) (hn : 1 ≤ z.l.length) (hle : z.l.length ≤ 4194304) (bnd : Array Value) (k : Nat)
  (HC : ∀ (T : List At) (g' : Nat) (a' : Addr) (r' : Option Nat) (c' : Nat) (w : World), St w0 X (pZ g' z (some a') c' :: pL r' (some a') c' z :: (M ++ T)) w → Calls Try.prog 60 (#[.pointer (some ⟨g', 0, none⟩)] ++ bnd) w fun e w' => e = .panicked (chS k) ∧ St w0 X (M' ++ T) w') :
  Calls Try.prog 34 #[.pointer (some ⟨g, 0, none⟩), .func (.func 60) #[] bnd] w fun e w' => e = .returned (.agg (stl k).toArray) ∧ St w0 X (pZ g z (some a) cc :: pL r (some a) cc z :: (M' ++ L)) w' := by
 have CN : Hid (∀ (g4 : Nat) (w : World), St w0 X (.blk g4 32 st0 :: pZ g z (some a) cc :: pL r (some a) cc z :: (M ++ L)) w → Calls Try.prog 42 #[.pointer (some ⟨g, 0, none⟩)] w fun e w' => e = .returned (.bool false) ∧ St w0 X (.blk g4 32 st0 :: pZ g z (some a) cc :: pL r (some a) cc z :: (M ++ L)) w') := Lib.hid (fun g4 w hs => (none_st hs.u11 (by simp)).mono (by
  rintro e w' ⟨h1, h2⟩
  exact ⟨h1, h2.u11⟩))
 have CC : Hid (∀ (g4 : Nat) (w : World), St w0 X (.blk g4 32 st0 :: pZ g z (some a) cc :: pL r (some a) cc z :: (M ++ L)) w → Calls Try.prog 24 #[.pointer (some ⟨g, 0, none⟩)] w fun e w' => ∃ g' a' r' c', e = .returned (.pointer (some ⟨g', 0, none⟩)) ∧ St w0 X (pZ g' z (some a') c' :: pL r' (some a') c' z :: .blk g4 32 st0 :: pZ g z (some a) cc :: pL r (some a) cc z :: (M ++ L)) w') := Lib.hid (fun g4 w hs => (copy_st hs.u11 (Reads.own 1 rfl) hn hle).mono (by
  rintro e w' ⟨g', a', r', c', h1, h2⟩
  exact ⟨g', a', r', c', h1, h2.perm (List.Perm.cons _ (List.Perm.cons _ (List.Perm.swap _ _ _)))⟩))
 have CH : Hid (∀ (g4 g' : Nat) (a' : Addr) (r' : Option Nat) (c' : Nat) (w : World), St w0 X (pZ g' z (some a') c' :: pL r' (some a') c' z :: .blk g4 32 st0 :: pZ g z (some a) cc :: pL r (some a) cc z :: (M ++ L)) w → Calls Try.prog 60 (#[.pointer (some ⟨g', 0, none⟩)] ++ bnd) w fun e w' => e = .panicked (chS k) ∧ St w0 X (.blk g4 32 st0 :: pZ g z (some a) cc :: pL r (some a) cc z :: (M' ++ L)) w') := Lib.hid (fun g4 g' a' r' c' w hs => (HC (.blk g4 32 st0 :: pZ g z (some a) cc :: pL r (some a) cc z :: L) g' a' r' c' w (hs.perm (List.Perm.cons _ (List.Perm.cons _ (List.perm_append_comm_assoc [_, _, _] M L))))).mono (by
  rintro e w' ⟨h1, h2⟩
  exact ⟨h1, h2.perm (List.perm_append_comm_assoc [_, _, _] M' L).symm⟩))
 have ZS : Hid ((Try.prog.info? 32).bind (fun i => i.zero.map (·.cells.toList)) = some st0) := Lib.hid zSt
 have MT : Hid (∀ (L : List At) (w : World), St w0 X L w → Calls Try.prog 36 #[.bool true, .int .u8 6] w fun e w' => e = .returned (.tuple #[]) ∧ St w0 X L w') := Lib.hid (fun L w hs => must_t hs 6)
 have KL := Lib.hid (stl_len k)
 clear HC hn hle
 go_enter_defers Try.func34, Try.ntmps34
 go_wp2_with (first | ((with_reducible refine Se.isL (o := ⟨some 4, _, _, _, _, _⟩) ?_); (refine Se.toL rfl (Se.al (o := ⟨some 4, _, _, _, _, _⟩) hs rfl (ZS.out) ?_); clear hs; rintro w g4 - hs)) | (go_at_call 42; refine Calls.mono (CN.out _ _ hs) ?_; clear hs; rintro e w ⟨rfl, hs⟩) | (go_at_call 36; refine Calls.mono (MT.out _ _ hs) ?_; clear hs; rintro e w ⟨rfl, hs⟩) | (go_at_call 24; refine Calls.mono (CC.out _ _ hs) ?_; clear hs; rintro e w ⟨g', a', r', c', rfl, hs⟩) | (go_at_call 60; refine Calls.mono (CH.out _ _ _ _ _ _ hs) ?_; clear hs; rintro e w ⟨rfl, hs⟩))
 refine leaves_cons (f := 41) (args := #[.pointer (some ⟨g4, 0, none⟩)]) (by simp) (by simp [go_sem]) ?_
 refine (caught_panic k g4 rfl hs).mono ?_
 rintro e' u' w'' ⟨rfl, rfl, hs⟩
 refine ⟨_, run_results_row hs Try.results34 rfl (Reads.blk 0 rfl) (by kernel_rfl) (by rw [KL.out] <;> kernel_rfl), ?_⟩
 exact ⟨rfl, hs.drop⟩
end Zo
end Go.Proofs.Ythpgkkfahiglnaa


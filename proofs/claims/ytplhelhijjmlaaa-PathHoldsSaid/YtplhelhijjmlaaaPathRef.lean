/- Layer 45: the reference's paths: wrong, set, SetState, State, Connect, Submit, Done, Learn. -/
import Derived.Test.YtplhelhijjmlaaaPathLearn
namespace Go.Proofs.Ytplhelhijjmlaaa
open Go Go.RowKit
namespace Pa
open Se (St At Reads Cell)
variable {w0 w : World} {X : List Nat} {L : List At} {A : Option Addr} {c : Nat} {p : PP}
/-- The reference's paths as a value. -/
abbrev rvl (p : PP) (A : Option Addr) (c : Nat) : List Value := [.int .i64 p.tries, .slice A p.l.length c]
abbrev rv (p : PP) (A : Option Addr) (c : Nat) : Value := .agg #[.int .i64 p.tries, .slice A p.l.length c]
theorem info_ex {P : Program} {ty : TypeId} {s b : Nat} (h : (P.info? ty).map (fun i => (match i.zero with | some z => z.cells.size == s | none => false) && i.size == s && i.bytes == b) = some true) : ∃ z, (P.info? ty).map (fun i => (i.zero, i.size, i.bytes)) = some (some z, s, b) ∧ z.cells.size = s := by
  cases hi : P.info? ty with
  | none => simp [hi] at h
  | some i =>
    cases hz : i.zero with
    | none => simp [hi, hz] at h
    | some z =>
      simp [hi, hz] at h
      exact ⟨z, by simp [hz, h.1.2, h.2], h.1.1⟩
theorem iRP : ∃ z, (Try.prog.info? 70).map (fun i => (i.zero, i.size, i.bytes)) = some (some z, 131, 1048) ∧ z.cells.size = 131 := info_ex (by decide +kernel)
theorem cS_one (x : PS) : ∀ v ∈ cS x, v.oneCell' = true := by
  intro v hv
  simp only [cS, List.mem_cons, List.mem_map] at hv
  rcases hv with rfl | rfl | ⟨z, _, rfl⟩ <;> rfl
theorem cells_one (l : List PS) : ∀ v ∈ cells l, v.oneCell' = true := by
  intro v hv
  simp only [cells, List.mem_flatMap] at hv
  obtain ⟨x, _, hx⟩ := hv
  exact cS_one x v hx
theorem put_cells (hp : OkP p) {i : Int} (hi : rng p i = 0) {x : PS} (hx : okS x) : (cells p.l).take (i.toNat * 131) ++ cS x ++ (cells p.l).drop (i.toNat * 131 + (cS x).length) = cells (put p i x).l := by
  have hl := rng_lt hi
  have hc := cS_len hp
  rw [cS_length hx]
  have e1 : p.l = p.l.take i.toNat ++ get p i :: p.l.drop (i.toNat + 1) := by
    rw [← get_eq hi, ← List.drop_eq_getElem_cons, List.take_append_drop]
  have e2 : (put p i x).l = p.l.take i.toNat ++ x :: p.l.drop (i.toNat + 1) := by
    show p.l.set i.toNat x = _
    rw [List.set_eq_take_append_cons_drop, if_pos hl.2]
  have l1 : (cells (p.l.take i.toNat)).length = i.toNat * 131 := by
    unfold cells
    rw [flat_length _ fun y hy => hc y (List.mem_of_mem_take hy), List.length_take, Nat.min_eq_left (by omega)]
  have l2 : (cS (get p i)).length = 131 := cS_length (hp.get hi)
  have e3 : cells p.l = cells (p.l.take i.toNat) ++ (cS (get p i) ++ cells (p.l.drop (i.toNat + 1))) := by
    conv => lhs; rw [e1]
    simp [cells]
  rw [e2, e3]
  rw [List.take_append_of_le_length (by omega), List.take_of_length_le (by omega), List.drop_append, List.drop_eq_nil_of_le (by omega), List.nil_append, List.drop_append, List.drop_eq_nil_of_le (by omega), List.nil_append]
  rw [show i.toNat * 131 + 131 - (cells (p.l.take i.toNat)).length - (cS (get p i)).length = 0 by omega, List.drop_zero]
  simp [cells]
set_option maxRecDepth 100000 in
theorem wrong_st (hs : St w0 X L w) (i : Int) :
    Calls Try.prog 58 #[rv p A c, .int .i64 i] w fun e w' => e = .returned (.int .i64 (rng p i)) ∧ St w0 X L w' := by
  have key : i < 0 ∧ rng p i = 3 ∨ decide (i < 0) = false ∧ (p.l.length : Int) ≤ i ∧ rng p i = 3 ∨ decide (i < 0) = false ∧ decide ((p.l.length : Int) ≤ i) = false ∧ rng p i = 0 := by
    simp only [decide_eq_false_iff_not]; unfold rng; split <;> omega
  rcases key with ⟨h1, h⟩ | ⟨h1, h2, h⟩ | ⟨h1, h2, h⟩
  all_goals
    have HR := Lib.hid h
    clear h
    go_enter Try.func58, Try.ntmps58
    go_wp2_with (first | ((with_reducible refine Se.isL (o := ⟨some 10, _, _, _, _, _⟩) ?_); (refine Se.toL rfl (Se.ld (o := ⟨some 10, _, _, _, _, _⟩) hs rfl rfl (Cell.blk 0 rfl rfl) (by kernel_rfl) ?_))) | ((first | with_reducible refine Se.ab hs ?_ | with_reducible refine Se.abc hs ?_); clear hs; (first | (generalize w.heap.size = g2; intro w hs))))
    go_ret
    rw [HR.out]
    exact ⟨rfl, hs.drop⟩
set_option maxRecDepth 100000 in
set_option maxHeartbeats 1000000 in
theorem rset_st (hs : St w0 X L w) (hm : At.rd A (cells p.l) ∈ L) (hp : OkP p) (i : Int) (hi : rng p i = 0) (x : PS) (hx : okS x) :
    Calls Try.prog 59 #[rv p A c, .int .i64 i, .agg (cS x).toArray] w fun e w' => ∃ A' c', e = .returned (rv (put p i x) A' c') ∧ St w0 X (.rd A' (cells (put p i x).l) :: L) w' := by
  have HP := Lib.hid hp
  have HI := Lib.hid hi
  have HX := Lib.hid hx
  have HM := Lib.hid hm
  obtain ⟨n, hn⟩ : ∃ n, n = p.l.length := ⟨_, rfl⟩
  have hn1 : 1 ≤ n := by rw [hn]; exact hp.n1
  have hn2 : n ≤ 32 := by rw [hn]; exact hp.n2
  have hi0 : 0 ≤ i := (by have := rng_lt hi; unfold rng at hi; split at hi; omega; cases hi)
  have hin : i < n := by rw [hn]; unfold rng at hi; split at hi; omega; cases hi
  obtain ⟨xs, hxs⟩ : ∃ xs, xs = cS x := ⟨_, rfl⟩
  obtain ⟨cl, hcl⟩ : ∃ cl, cl = cells p.l := ⟨_, rfl⟩
  obtain ⟨cl2, hcl2⟩ : ∃ cl2, cl2 = cells (put p i x).l := ⟨_, rfl⟩
  have hl2 : (put p i x).l.length = n := by rw [hn]; simp [put]
  have ht2 : (put p i x).tries = p.tries := rfl
  have HCE := Lib.hid (show cl.take (i.toNat * 131) ++ xs ++ cl.drop (i.toNat * 131 + xs.length) = cl2 by rw [hxs, hcl, hcl2]; exact put_cells hp hi hx)
  have HCL := Lib.hid (show cl.length = n * 131 by rw [hcl, hn]; exact cells_len hp)
  have HXL := Lib.hid (show xs.length = 131 by rw [hxs]; exact cS_length hx)
  have HXO := Lib.hid (show ∀ v ∈ xs, v.oneCell' = true by rw [hxs]; exact cS_one x)
  have HCO := Lib.hid (show ∀ v ∈ cl, v.oneCell' = true by rw [hcl]; exact cells_one _)
  have HN := Lib.hid hn
  unfold rv
  rw [← hxs, ← hcl2, hl2, ht2, ← hn]
  rw [← hcl] at hm
  clear hp hi hx HM hxs hcl hcl2 hl2 ht2 hn
  have HM := Lib.hid hm
  clear hm
  generalize p.tries = tr at *
  go_enter Try.func59, Try.ntmps59
  obtain ⟨z, hz1, hz2⟩ := iRP
  have Z1 := Lib.hid hz1
  have Z2 := Lib.hid hz2
  clear hz1 hz2
  go_upto_region 2 with (first | ((with_reducible refine Se.isL (o := ⟨some 7, _, _, _, _, _⟩) ?_); (refine Se.toL rfl (Se.bs0 (o := ⟨some 7, _, _, _, _, _⟩) hs rfl Try.underlying57 (by kernel_rfl) ?_); clear hs; rintro w g7 - hs; replace hs := hs.blk_own 131 0 0 (by simp) (Nat.le_refl _) (by decide); simp only [Nat.zero_mul, List.take_zero] at hs)) | ((with_reducible refine Se.isL (o := ⟨some 9, _, _, _, _, _⟩) ?_); (refine Se.toL rfl (Se.ld (o := ⟨some 9, _, _, _, _, _⟩) hs rfl rfl (Cell.blk 3 rfl rfl) (by kernel_rfl) ?_))) | ((with_reducible refine Se.isL (o := ⟨some 10, _, _, _, _, _⟩) ?_); (refine Se.toL rfl (Se.ap (o := ⟨some 10, _, _, _, _, _⟩) 0 hs rfl rfl rfl rfl ((Reads.rdm (by simp only [List.mem_cons, HM.out, or_true]))) Try.underlying57 Z1.out (Z2.out) (by decide) (HCO.out) (HCL.out) ((by omega)) ((by omega)) ?_); clear hs; rintro w r7 A7 c7 hs; try simp only [List.set_cons_zero] at hs; try simp only [Nat.zero_add, List.nil_append] at hs; try simp only [Nat.zero_add])) | ((with_reducible refine Se.isL (o := ⟨none, _, _, _, _, _⟩) ?_); ((first | refine Se.toL rfl (Se.so 3 (v := .int _ _) hs rfl rfl rfl rfl rfl (by kernel_rfl) (by simp) ?_) | refine Se.toL rfl (Se.so 3 (v := .bool _) hs rfl rfl rfl rfl rfl (by kernel_rfl) (by simp) ?_) | refine Se.toL rfl (Se.so 3 (v := .slice _ _ _) hs rfl rfl rfl rfl rfl (by kernel_rfl) (by simp) ?_) | refine Se.toL rfl (Se.so 3 (v := .pointer _) hs rfl rfl rfl rfl rfl (by kernel_rfl) (by simp) ?_) | refine Se.toL rfl (Se.so 3 (v := .string _) hs rfl rfl rfl rfl rfl (by kernel_rfl) (by simp) ?_) | refine Se.toL rfl (Se.so 3 (v := .map _) hs rfl rfl rfl rfl rfl (by kernel_rfl) (by simp) ?_) | refine Se.toL rfl (Se.so 3 (v := .func _ _ _) hs rfl rfl rfl rfl rfl (by kernel_rfl) (by simp) ?_) | refine Se.toL rfl (Se.so 3 (v := .nilFunc) hs rfl rfl rfl rfl rfl (by kernel_rfl) (by simp) ?_)); clear hs; intro w hs; try simp only [List.set_cons_zero, List.set_cons_succ] at hs)) | ((first | with_reducible refine Se.ab hs ?_ | with_reducible refine Se.abc hs ?_); clear hs; (first | (generalize w.heap.size = g3; intro w hs))))
  obtain ⟨g, off, rfl, rfl⟩ := hs.own_at 0 rfl (by omega)
  have hlen : i.toNat * 131 + 131 ≤ n * 131 := by omega
  go_wp2_with (first | ((with_reducible refine Se.isL (o := ⟨some 13, _, _, _, _, _⟩) ?_); (refine Se.toL rfl (Se.ld (o := ⟨some 13, _, _, _, _, _⟩) hs rfl rfl (Cell.blk 3 rfl rfl) (by kernel_rfl) ?_))) | ((with_reducible refine Se.isL (o := ⟨some 15, _, _, _, _, _⟩) ?_); (refine Se.toL rfl (Se.ldw (o := ⟨some 15, _, _, _, _, _⟩) hs rfl rfl ((Reads.blk 2 rfl)) ((by rw [HXL.out]; kernel_rfl)) (by kernel_rfl) ?_))) | ((with_reducible refine Se.isL (o := ⟨none, _, _, _, _, _⟩) ?_); (refine Se.toL rfl (Se.soae 0 hs rfl rfl rfl rfl (HXO.out) ((by rw [HXL.out]; kernel_rfl)) ((by rw [HXL.out]; decide)) (rfl) ((by rw [HXL.out, HCL.out]; omega)) (HCE.out) ?_); clear hs; intro w hs; try simp only [List.set_cons_zero] at hs)) | ((with_reducible refine Se.isL (o := ⟨some 17, _, _, _, _, _⟩) ?_); (refine Se.toL rfl (Se.ldw (o := ⟨some 17, _, _, _, _, _⟩) hs rfl rfl ((Reads.blk 3 rfl)) ((by kernel_rfl)) (by kernel_rfl) ?_))) | ((with_reducible refine Se.isL (o := ⟨none, _, _, _, _, _⟩) ?_); (refine Se.toL rfl (Se.sow 1 hs rfl rfl rfl rfl ((by simp [Value.oneCell'])) ((by kernel_rfl)) (rfl) ?_); clear hs; intro w hs; try simp only [List.set_cons_zero, List.set_cons_succ] at hs)))
  refine Li.bodyPost_blk (by rfl) (by rfl) (hs.hold (.blk _ _ _) (List.mem_cons_of_mem _ List.mem_cons_self)) Try.underlying59 rfl (by kernel_rfl) rfl ⟨_, _, rfl, ?_⟩
  exact (hs.own_rd.u31.drop.drop.drop)
end Pa
end Go.Proofs.Ytplhelhijjmlaaa

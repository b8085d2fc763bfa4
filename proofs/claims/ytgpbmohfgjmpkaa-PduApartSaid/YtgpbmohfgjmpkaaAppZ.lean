/- append(s, make([]T, n)...): n zeros behind a slice of one's own. No condition but Go's own limits. -/
import Derived.Test.YtgpbmohfgjmpkaaSepMore2
set_option linter.unusedSimpArgs false
set_option linter.unusedVariables false
namespace Go.Proofs.Ytgpbmohfgjmpkaa
open Go Go.RowKit
namespace Se
open Li (Blk Rd Fr)
section
variable {P : Program} {w0 w : World} {X : List Nat} {L : List At} {o : Oper} {a : Act} {G : Value → World → Prop}
theorem zeroCells_one {z : Value} (hz : z.cells = #[z]) (m : Nat) : Builtin.zeroCells z.cells m = (List.replicate m z).toArray := by
  unfold Builtin.zeroCells
  rw [hz]
  apply Array.ext
  · simp
  · intro i h1 h2
    simp [Nat.mod_one]
theorem run_append_zero {t u ty e : TypeId} {z : Value} (ht : P.underlying t = some (.slice e)) (hu : P.underlying u = some (.int .i64)) (hinfo : (P.info? e).map (fun i => (i.zero, i.size, i.bytes)) = some (some z, 1, 1)) (hz : z.cells = #[z]) (h1 : z.oneCell' = true)
    {r : Option Nat} {A : Option Addr} {c n m : Nat} {xs : List Value} (hO : Ow w 1 r A n c xs) (hle : n + m ≤ 140737488355328) :
    ∃ A' c' r' w', (Builtin.append_ #[t, u] ty #[.slice A n c, .int .i64 m]).run P w = .ok (.slice A' (n + m) c') w' ∧ Ow w' 1 r' A' (n + m) c' (xs ++ List.replicate m z) ∧ w.grownBy w' r ∧ (r' = r ∨ r' = some w.heap.size) := by
  cases hi : P.info? e with
  | none => simp [hi] at hinfo
  | some i =>
    simp only [hi, Option.map_some, Option.some.injEq, Prod.mk.injEq] at hinfo
    obtain ⟨hz1, hs1, hby⟩ := hinfo
    obtain ⟨hxl, hnc, hcase⟩ := hO
    have hmax : (maxLen : Nat) = 9223372036854775807 := rfl
    have hwrap : IntKind.i64.wrap (m : Int) = m := IntWalk.i64_in _ (by omega)
    have hneg : ¬ ((m : Int) < 0) := by omega
    have h48 : ¬ ((281474976710656 : Int) < (m : Int)) := by omega
    by_cases hroom : n + m ≤ c
    · rcases hcase with ⟨rfl, rfl⟩ | ⟨g, off, l, t', rfl, rfl, hb, hl, hmx, hx⟩
      · have : n = 0 := by omega
        have : m = 0 := by omega
        subst n m
        have : xs = [] := by simpa using hxl
        subst this
        refine ⟨A, 0, none, w, ?_, ⟨by simp, Nat.le_refl _, .inl ⟨rfl, rfl⟩⟩, ⟨rfl, rfl, rfl, Nat.le_refl _, fun _ _ _ => rfl⟩, .inl rfl⟩
        cases A <;> simp [Builtin.append_, run_underlying ht, run_underlying hu, sizeOf, typeInfo, hi, hs1, hby, asInt, asIntOf, show IntKind.i64.wrap 0 = 0 from rfl, storeCells]
      · have hst := run_storeCells_cells (P := P) g (off + n) (List.replicate m z) 0 w (by intro j hj; rw [hb.cell]; simp at hj ⊢; omega) (by intro j hj; exact hb.frozen _) (by intro v hv; rw [List.eq_of_mem_replicate hv]; exact h1)
        simp only [Nat.add_zero] at hst
        refine ⟨some ⟨g, off, none⟩, c, some g, w.setCells g (off + n) (List.replicate m z), ?_, ?_, ?_, .inl rfl⟩
        · rcases Nat.eq_zero_or_pos m with rfl | hm
          · simp [Builtin.append_, run_underlying ht, run_underlying hu, sizeOf, typeInfo, hi, hs1, hby, asInt, asIntOf, show IntKind.i64.wrap 0 = 0 from rfl, storeCells, show n ≤ c by omega, World.setCells]
          · have hm0 : ¬ m = 0 := by omega
            have hzc := zeroCells_one hz m
            simp [Builtin.append_, run_underlying ht, run_underlying hu, sizeOf, typeInfo, zeroValue, hi, hs1, hz1, hby, asInt, asIntOf, hwrap, hneg, h48, hm0, hroom, Addr.add_lit, hst, hzc]
        · refine ⟨by simp [hxl], hroom, .inr ⟨g, off, _, t', rfl, rfl, hb.setCells _ (off + n) (by simp; omega), ?_, hmx, ?_⟩⟩
          · simp; omega
          · have e1 : (l.take (off + n) ++ List.replicate m z ++ l.drop (off + n + (List.replicate m z).length)).drop off = xs ++ List.replicate m z ++ l.drop (off + n + m) := by
              rw [List.append_assoc, List.drop_append_of_le_length (by rw [List.length_take]; omega), List.drop_take, Nat.add_sub_cancel_left, ← hx]
              simp
            rw [e1]
            have : (n + m) * 1 = (xs ++ List.replicate m z).length := by simp [hxl]
            rw [this]
            exact List.take_left
        · exact ⟨(Li.below_setCells _ _ w g (Below.refl 0 w) (Nat.zero_le _)).os, (Li.below_setCells _ _ w g (Below.refl 0 w) (Nat.zero_le _)).tape, (Li.below_setCells _ _ w g (Below.refl 0 w) (Nat.zero_le _)).output, by rw [Li.size_setCells]; exact Nat.le_refl _, fun k _ hk => Li.heap_setCells_other _ _ w g k (fun h => hk (by rw [h]))⟩
    · have hge := grownCap_ge w (n + m) c e
      have hcm := grownCap_le_maxLen w (n + m) c e (by omega)
      have hm0 : ¬ m = 0 := by omega
      have hfit := growslice_fits (need := n + m) (old := c) (bytes := 1) (by omega) (by omega)
      have h63' : ¬ (9223372036854775807 < ((n : Int) + (m : Int))) := by omega
      have h48' : ¬ (281474976710656 < Builtin.nextslicecap (n + m) c) := by simpa using hfit
      have hold : (Builtin.firstCells 1 n (.slice A n c)).run P w.drew = .ok xs.toArray w.drew := by
        rcases hcase with ⟨rfl, rfl⟩ | ⟨g, off, l, t', rfl, rfl, hb, hl, hmx, hx⟩
        · have : n = 0 := by omega
          subst n
          have : xs = [] := by simpa using hxl
          subst this
          cases A with
          | none => exact run_firstCells_none w.drew 1 0 0 0
          | some b => exact run_firstCells_some w.drew 1 0 b 0 0 [] (by simp) (by simp)
        · refine run_firstCells_some w.drew 1 n _ n c xs hxl fun j v hv => ?_
          have hj := (List.getElem?_eq_some_iff.1 hv).1
          rw [Addr.add_lit]
          show w.cell? _ = _
          rw [hb.cell]
          have : xs[j]? = l[off + j]? := by
            rw [← hx, List.getElem?_take_of_lt (by omega), List.getElem?_drop]
          rw [← this, hv]
      have hzc := zeroCells_one hz
      refine ⟨some ⟨w.heap.size, 0, none⟩, grownCap w (n + m) c e, some w.heap.size, w.drew.alloc (.cells (xs.toArray ++ (List.replicate m z).toArray ++ (List.replicate (grownCap w (n + m) c e - (n + m)) z).toArray) e), ?_, ?_, ⟨rfl, rfl, rfl, by simp, fun k hk _ => Below.heap_alloc w.drew _ k hk⟩, .inr rfl⟩
      · simp [Builtin.append_, run_underlying ht, run_underlying hu, sizeOf, typeInfo, zeroValue, hi, hs1, hz1, hby, asInt, asIntOf, hwrap, hneg, h48, hm0, hroom, h63', h48', Question.forced, hold, hzc, newRow, grownCap]
      · refine ⟨by simp [hxl], hge, .inr ⟨w.heap.size, 0, (xs ++ List.replicate m z ++ List.replicate (grownCap w (n + m) c e - (n + m)) z), e, rfl, rfl, by have h := Blk.new w.drew (xs ++ List.replicate m z ++ List.replicate (grownCap w (n + m) c e - (n + m)) z) e; rw [show (xs ++ List.replicate m z ++ List.replicate (grownCap w (n + m) c e - (n + m)) z).toArray = xs.toArray ++ (List.replicate m z).toArray ++ (List.replicate (grownCap w (n + m) c e - (n + m)) z).toArray by simp only [List.append_toArray]] at h; exact h, ?_, hcm, ?_⟩⟩
        · simp [hxl]; omega
        · have : (n + m) * 1 = (xs ++ List.replicate m z).length := by simp [hxl]
          rw [List.drop_zero, this]
          exact List.take_left
/-- n zeros behind a slice of one's own. -/
theorem apn (k : Nat) (hs : St w0 X L w) {x y : Operand} {t u e : TypeId} (ho : o.op = .call { callee := .builtin .append, args := #[x, y], argTypes := #[t, u] })
    {r : Option Nat} {A : Option Addr} {n c m : Nat} (hx : a.eval x = .slice A n c) {q : Int} (hy : a.eval y = .int .i64 q) (hq : q = (m : Int)) {xs : List Value} (hk : L[k]? = some (.own 1 r A n c xs))
    {z : Value} (ht : P.underlying t = some (.slice e)) (hu : P.underlying u = some (.int .i64)) (hinfo : (P.info? e).map (fun i => (i.zero, i.size, i.bytes)) = some (some z, 1, 1)) (hz : z.cells = #[z]) (h1 : z.oneCell' = true) (hle : n + m ≤ 140737488355328)
    (h : ∀ (w' : World) (r' : Option Nat) (A' : Option Addr) (c' : Nat), St w0 X (L.set k (.own 1 r' A' (n + m) c' (xs ++ List.replicate m z))) w' → G (.slice A' (n + m) c') w') : Hv.Gives P o a w G := by
  subst hq
  obtain ⟨A', c', r', w', hr, h2, h3, h4⟩ := run_append_zero (P := P) (ty := o.type) (m := m) ht hu hinfo hz h1 (hs.hold _ (List.mem_of_getElem? hk)) hle
  unfold Hv.Gives execOp
  simp only [ho, resolve, invoke, builtin, Sem.run_bind, Sem.run_pure, Result.andThen_ok, List.map_toArray, List.map_cons, List.map_nil, hx, hy, hr]
  exact h w' r' A' c' (St.appendAt k hk hs h2 h3 h4)
/-- Fewer elements of a slice of one's own. -/
theorem St.own_take {s : Nat} {r : Option Nat} {A : Option Addr} {n c : Nat} {xs : List Value} (hs : St w0 X (.own s r A n c xs :: L) w) (m : Nat) (hm : m ≤ n) : St w0 X (.own s r A m c (xs.take (m * s)) :: L) w := by
  refine St.turn (P := [.own s r A n c xs]) (P' := [.own s r A m c (xs.take (m * s))]) hs (Fr.refl _ w) ?_ (by simp [At.noRd]) (by cases r <;> simp [ownedL, At.owned]) (by simp [ownedL, At.owned]; intro b h; exact .inl h)
  have ho : Ow w s r A n c xs := hs.hold _ List.mem_cons_self
  obtain ⟨h1, h2, h3⟩ := ho
  have hle : m * s ≤ n * s := Nat.mul_le_mul_right _ hm
  simp only [List.mem_singleton, forall_eq, At.holds]
  refine ⟨by simp; omega, by omega, ?_⟩
  rcases h3 with ⟨rfl, rfl⟩ | ⟨g, off, l, t, hA, hr, hb, h4, h5, h6⟩
  · exact .inl ⟨rfl, rfl⟩
  · exact .inr ⟨g, off, l, t, hA, hr, hb, h4, h5, by rw [← h6, List.take_take, Nat.min_eq_left hle]⟩
end
end Se
end Go.Proofs.Ytgpbmohfgjmpkaa

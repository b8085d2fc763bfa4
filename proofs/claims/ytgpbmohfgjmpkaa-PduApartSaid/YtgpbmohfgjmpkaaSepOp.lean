/- The operations on memory as steps of the walk, over a list of pieces. No condition but Go's own limits. -/
import Derived.Test.YtgpbmohfgjmpkaaSep
import Derived.Deep.Upon
import Derived.Test.YtgpbmohfgjmpkaaChain
import Derived.Deep.DeepCutAuto
import Derived.ChangeKeysEq
import Derived.Laws.StructEq
namespace Go.Proofs.Ytgpbmohfgjmpkaa
open Go Go.RowKit
namespace Se
open Li (Blk Rd Fr)
section
variable {P : Program} {w0 w : World} {X : List Nat} {L : List At} {o : Oper} {a : Act} {G : Value → World → Prop}
theorem toWp {K : Act → World → Prop} {Q : Exit → Act → World → Prop} (h : Hv.Gives P o a w (fun v w' => K (a.put o.dst v) w')) : o.wp P a w K Q := h.wp fun _ _ h => h
theorem isC {c : Code} {Q : Exit → Act → World → Prop} (h : c.wp P Q a w) : c.wp P Q a w := h
theorem isK {f : FuncId} {args : Array Value} {R : Ending → World → Prop} (h : Calls P f args w R) : Calls P f args w R := h
theorem isL {ops : Array Oper} {rest : List Oper} {Q : Exit → Act → World → Prop} (h : wpList P ops Q (o :: rest) a w) : wpList P ops Q (o :: rest) a w := h
theorem toL {ops : Array Oper} {rest : List Oper} {Q : Exit → Act → World → Prop} (hw : Region.wanted o (yielded ops a.tmps) = true) (h : Hv.Gives P o a w (fun v w' => wpList P ops Q rest (a.put o.dst v) w')) : wpList P ops Q (o :: rest) a w :=
  wpList_step fun K hK => by rw [if_pos hw]; exact h.wp fun v w' h => hK _ _ h
theorem gcall {f : FuncId} {args : Array Value} (hx : (execOp a.eval o).run P w = .ok (.enter f args) w) (h : Calls P f args w (fun e w' => ∃ v, e = .returned v ∧ G v w')) : Hv.Gives P o a w G := by
  unfold Hv.Gives; rw [hx]; exact h
/-- A piece that the walk itself has made. -/
theorem ab {ops : Array Oper} {rest : List Oper} {Q : Exit → Act → World → Prop} (hs : St w0 X L w) {l : List Value} {t : TypeId} (h : ∀ w', St w0 X (.blk w.heap.size t l :: L) w' → wpList P ops Q rest a w') : wpList P ops Q rest a (w.alloc (.cells l.toArray t)) := h _ (hs.alloc l t)
theorem abc {c : Code} {Q : Exit → Act → World → Prop} (hs : St w0 X L w) {l : List Value} {t : TypeId} (h : ∀ w', St w0 X (.blk w.heap.size t l :: L) w' → c.wp P Q a w') : c.wp P Q a (w.alloc (.cells l.toArray t)) := h _ (hs.alloc l t)
theorem run_isRow {ty : TypeId} {b : Bool} (h : (P.underlying ty).map TypeDesc.isRow = some b) (w : World) : (isAgg ty).run P w = .ok b w := by
  cases hd : P.underlying ty with
  | none => simp [hd] at h
  | some d =>
    simp only [hd, Option.map_some, Option.some.injEq] at h
    subst h
    unfold isAgg
    rw [Sem.run_bind, run_underlying hd w]
    cases d <;> rfl
theorem run_loadAt_cell {ty : TypeId} {g i : Nat} {v : Value} (hd : (P.underlying ty).map TypeDesc.isRow = some false) (hc : w.cell? ⟨g, i, none⟩ = some v) : (Instr.loadAt ty (.pointer (some ⟨g, i, none⟩))).run P w = .ok v w := by
  simp [Instr.loadAt, Instr.sureAddr, loadVar, Sem.run_bind, run_isRow hd, hc]
theorem run_storeAt_cell {ty : TypeId} {g i : Nat} {v : Value} (hi : (P.info? ty).map (·.size) = some 1) (h1 : v.oneCell' = true) (hc : (w.cell? ⟨g, i, none⟩).isSome = true) (hf : w.frozen? ⟨g, i, none⟩ = false) :
    (Instr.storeAt ty (.pointer (some ⟨g, i, none⟩)) v).run P w = .ok () (w.setCell ⟨g, i, none⟩ v) := by
  have hcs : v.cells = #[v] := by cases v <;> simp_all [Value.cells, Value.oneCell']
  obtain ⟨u, hu⟩ := Option.isSome_iff_exists.1 hc
  simp [Instr.storeAt, Instr.sureAddr, storeVar, Sem.run_bind, Li.run_size hi, hcs, storeCells, run_store P _ _ _ _ h1, hu, hf, Addr.add_lit]
/-- A cell is loaded. -/
theorem ld (hs : St w0 X L w) {ty : TypeId} {x : Operand} (ho : o.op = .load ty x) {g i : Nat} (hx : a.eval x = .pointer (some ⟨g, i, none⟩)) {v : Value} (hc : Cell L g i v) (hd : (P.underlying ty).map TypeDesc.isRow = some false) (hk : G v w) : Hv.Gives P o a w G := by
  unfold Hv.Gives execOp
  simp only [ho, hx, Sem.run_bind, run_loadAt_cell hd (hc w hs.hold), Result.andThen_ok, Sem.run_pure]
  exact hk
/-- A whole value of several cells is loaded. -/
theorem lda (hs : St w0 X L w) {ty : TypeId} {x : Operand} (ho : o.op = .load ty x) {g i : Nat} (hx : a.eval x = .pointer (some ⟨g, i, none⟩)) {xs : List Value} (hr : Reads L (some ⟨g, i, none⟩) xs) {n : Nat} (hi : (P.info? ty).map (·.size) = some n) (hd : (P.underlying ty).map TypeDesc.isRow = some true) (hn : n ≤ xs.length) (hk : G (.agg (xs.take n).toArray) w) : Hv.Gives P o a w G := by
  cases hu : P.underlying ty with
  | none => simp [hu] at hd
  | some d =>
    simp only [hu, Option.map_some, Option.some.injEq] at hd
    have hc : w.rangeAt g i (xs.take n) := by
      intro j v hv
      have hj := (List.getElem?_eq_some_iff.1 hv).1
      rw [List.length_take] at hj
      rw [List.getElem?_take_of_lt (by omega)] at hv
      exact hr.cell j hv w hs.hold
    have hr2 := run_loadAt_mid (P := P) w g i ty (xs.take n) d hc hu hd (by simpa [Nat.min_eq_left hn] using hi)
    unfold Hv.Gives execOp
    simp only [ho, hx, Sem.run_bind, hr2, Result.andThen_ok, Sem.run_pure]
    exact hk
/-- As 'lda': what is read is known to the last cell. -/
theorem ldw (hs : St w0 X L w) {ty : TypeId} {x : Operand} (ho : o.op = .load ty x) {g i : Nat} (hx : a.eval x = .pointer (some ⟨g, i, none⟩)) {xs : List Value} (hr : Reads L (some ⟨g, i, none⟩) xs) (hi : (P.info? ty).map (·.size) = some xs.length) (hd : (P.underlying ty).map TypeDesc.isRow = some true) (hk : G (.agg xs.toArray) w) : Hv.Gives P o a w G :=
  lda hs ho hx hr hi hd (Nat.le_refl _) (by rw [List.take_length]; exact hk)
theorem St.turnAt (k : Nat) {p p' : At} (hk : L[k]? = some p) (hs : St w0 X L w) {w' : World} (f : Fr (· ∈ p.owned) w w') (hp : p'.holds w') (hr : p'.noRd) (hn : p'.owned.Nodup) (hm : ∀ b ∈ p'.owned, b ∈ p.owned ∨ w.heap.size ≤ b) : St w0 X (L.set k p') w' := by
  refine St.put k hk ?_
  exact St.turn (P := [p]) (P' := [p']) (hs.pull k hk) (by simpa [ownedL] using f) (by simpa using hp) (by simpa using hr) (by simpa [ownedL] using hn) (by simpa [ownedL] using hm)
theorem St.setAt (k : Nat) {g : Nat} {t : TypeId} {l : List Value} (hk : L[k]? = some (.blk g t l)) (hs : St w0 X L w) (i : Nat) (v : Value) : St w0 X (L.set k (.blk g t (l.set i v))) (w.setCell ⟨g, i, none⟩ v) :=
  St.turnAt k hk hs ((Fr.refl _ w).setCell (by simp [At.owned]) _ _) (Blk.set (hs.hold _ (List.mem_of_getElem? hk)) i v) trivial (by simp [At.owned]) (by simp [At.owned])
theorem St.setsAt (k : Nat) {g : Nat} {t : TypeId} {l : List Value} (hk : L[k]? = some (.blk g t l)) (hs : St w0 X L w) (i : Nat) (vs : List Value) (hl : i + vs.length ≤ l.length) : St w0 X (L.set k (.blk g t (l.take i ++ vs ++ l.drop (i + vs.length)))) (w.setCells g i vs) :=
  St.turnAt k hk hs ((Fr.refl _ w).setCells (by simp [At.owned]) _ _) (Blk.setCells vs i (hs.hold _ (List.mem_of_getElem? hk)) hl) trivial (by simp [At.owned]) (by simp [At.owned])
/-- A cell is stored. -/
theorem so (k : Nat) (hs : St w0 X L w) {ty : TypeId} {x y : Operand} (ho : o.op = .store ty x y) {g i : Nat} (hx : a.eval x = .pointer (some ⟨g, i, none⟩)) {t : TypeId} {l : List Value} (hk : L[k]? = some (.blk g t l)) {v : Value} (hy : a.eval y = v) (h1 : v.oneCell' = true) (hi : (P.info? ty).map (·.size) = some 1) (hl : i < l.length)
    (h : ∀ w', St w0 X (L.set k (.blk g t (l.set i v))) w' → G undef w') : Hv.Gives P o a w G := by
  have hb : Blk w g l t := hs.hold _ (List.mem_of_getElem? hk)
  have hr := run_storeAt_cell (P := P) (w := w) (g := g) (i := i) (v := v) hi h1 (by rw [hb.cell]; simp [hl]) (hb.frozen i)
  unfold Hv.Gives execOp
  simp only [ho, hx, hy, Sem.run_bind, hr, Result.andThen_ok, Sem.run_pure]
  exact h _ (St.setAt k hk hs i v)
/-- A value of several cells is stored. -/
theorem soa (k : Nat) (hs : St w0 X L w) {ty : TypeId} {x y : Operand} (ho : o.op = .store ty x y) {g i : Nat} (hx : a.eval x = .pointer (some ⟨g, i, none⟩)) {t : TypeId} {l : List Value} (hk : L[k]? = some (.blk g t l)) {vs : List Value} (hy : a.eval y = .agg vs.toArray) (h1 : ∀ v ∈ vs, v.oneCell' = true) (hi : (P.info? ty).map (·.size) = some vs.length) (hl : i + vs.length ≤ l.length)
    (h : ∀ w', St w0 X (L.set k (.blk g t (l.take i ++ vs ++ l.drop (i + vs.length)))) w' → G undef w') : Hv.Gives P o a w G := by
  have hb : Blk w g l t := hs.hold _ (List.mem_of_getElem? hk)
  have hr := run_storeVar_mid (P := P) w g i ty vs.toArray (hb.there (by simpa using hl)) (by simpa using hi) (all_oneCell_toArray h1)
  unfold Hv.Gives execOp
  simp only [ho, hx, hy, Instr.storeAt, Instr.sureAddr, Sem.run_bind, Sem.run_pure, Result.andThen_ok, hr]
  exact h _ (St.setsAt k hk hs i vs hl)
/-- The whole block is stored. -/
theorem sow (k : Nat) (hs : St w0 X L w) {ty : TypeId} {x y : Operand} (ho : o.op = .store ty x y) {g : Nat} (hx : a.eval x = .pointer (some ⟨g, 0, none⟩)) {t : TypeId} {l : List Value} (hk : L[k]? = some (.blk g t l)) {vs : List Value} (hy : a.eval y = .agg vs.toArray) (h1 : ∀ v ∈ vs, v.oneCell' = true) (hi : (P.info? ty).map (·.size) = some vs.length) (hl : vs.length = l.length)
    (h : ∀ w', St w0 X (L.set k (.blk g t vs)) w' → G undef w') : Hv.Gives P o a w G :=
  soa k hs ho hx hk hy h1 hi (by omega) fun w' hw => h w' (by simpa [hl] using hw)
theorem al (hs : St w0 X L w) {ty : TypeId} (ho : o.op = .alloc ty) {l : List Value} (hz : (P.info? ty).bind (fun i => i.zero.map (·.cells.toList)) = some l)
    (h : ∀ (w' : World) (g : Nat), g = w.heap.size → St w0 X (.blk g ty l :: L) w' → G (.pointer (some ⟨g, 0, none⟩)) w') : Hv.Gives P o a w G := by
  cases hi : P.info? ty with
  | none => simp [hi] at hz
  | some i =>
    cases hz0 : i.zero with
    | none => simp [hi, hz0] at hz
    | some z =>
      simp only [hi, hz0, Option.bind_some, Option.map_some, Option.some.injEq] at hz
      subst hz
      have hr : (Instr.alloc ty true (.tuple #[])).run P w = .ok (.pointer (some ⟨w.heap.size, 0, none⟩)) (w.alloc (.cells z.cells ty)) := by
        simp [Instr.alloc, zeroValue, typeInfo, hi, hz0, newVar, newRow]
      unfold Hv.Gives execOp
      simp only [ho, Sem.run_bind, hr, Result.andThen_ok, Sem.run_pure]
      exact h _ _ rfl (by simpa using hs.alloc z.cells.toList ty)
theorem bx (hs : St w0 X L w) {ty : TypeId} {x : Operand} (ho : o.op = .box ty x) {v : Value} (hx : a.eval x = v) {l : List Value} (hl : v.cells.toList = l)
    (h : ∀ (w' : World) (g : Nat), g = w.heap.size → St w0 X (.blk g ty l :: L) w' → G (.pointer (some ⟨g, 0, none⟩)) w') : Hv.Gives P o a w G := by
  subst hl
  have hr : (Instr.box ty v).run P w = .ok (.pointer (some ⟨w.heap.size, 0, none⟩)) (w.alloc (.cells v.cells ty)) := by
    simp [Instr.box, newVar, newRow]
  unfold Hv.Gives execOp
  simp only [ho, hx, Sem.run_bind, hr, Result.andThen_ok, Sem.run_pure]
  exact h _ _ rfl (by simpa using hs.alloc v.cells.toList ty)
theorem bs (hs : St w0 X L w) {ty : TypeId} {n : Nat} {parts : Array (Nat × Operand)} (ho : o.op = .buildSlice ty n parts) {e : TypeId} (ht : P.underlying ty = some (.slice e)) {z : Value} {s : Nat} (hi : (P.info? e).map (fun i => (i.zero, i.size)) = some (some z, s)) (hb : n * s ≤ 16777216) (h0 : n * s ≠ 0) {cs : Array Value}
    (hf : Instr.fill (fun i => some (i * s, s)) ((Array.range (n * s)).map (z.cells[· % z.cells.size]!)) (parts.map fun (i, x) => (i, a.eval x)).toList = some cs)
    (h : ∀ (w' : World) (g : Nat), g = w.heap.size → St w0 X (.blk g e cs.toList :: L) w' → G (.slice (some ⟨g, 0, none⟩) n n) w') : Hv.Gives P o a w G := by
  cases hq : P.info? e with
  | none => simp [hq] at hi
  | some i =>
    simp only [hq, Option.map_some, Option.some.injEq, Prod.mk.injEq] at hi
    have hr : (Instr.buildSlice ty n (parts.map fun (i, x) => (i, a.eval x))).run P w = .ok (.slice (some ⟨w.heap.size, 0, none⟩) n n) (w.alloc (.cells cs e)) := by
      simp only [Instr.buildSlice, Sem.run_bind, run_underlying ht, Result.andThen_ok, sizeOf, typeInfo, run_program, hq, Sem.run_pure, hi.2, show ¬ (n * s > 2 ^ 24) by omega, if_false, if_neg h0, zeroValue, hi.1, hf, newRow, run_newObj]
      rfl
    unfold Hv.Gives execOp
    simp only [ho, Sem.run_bind, hr, Result.andThen_ok, Sem.run_pure]
    exact h _ _ rfl (by simpa using hs.alloc cs.toList e)
theorem bs0 (hs : St w0 X L w) {ty : TypeId} (ho : o.op = .buildSlice ty 0 #[]) {e : TypeId} (ht : P.underlying ty = some (.slice e)) (hi : (P.info? e).isSome = true)
    (h : ∀ (w' : World) (g : Nat), g = w.heap.size → St w0 X (.blk g e [] :: L) w' → G (.slice (some ⟨g, 0, none⟩) 0 0) w') : Hv.Gives P o a w G := by
  obtain ⟨i, hq⟩ := Option.isSome_iff_exists.1 hi
  have hr : (Instr.buildSlice ty 0 #[]).run P w = .ok (.slice (some ⟨w.heap.size, 0, none⟩) 0 0) (w.alloc (.cells #[] e)) := by
    simp [Instr.buildSlice, Sem.run_bind, run_underlying ht, sizeOf, typeInfo, hq, Instr.fill, newRow]
    rw [show (Array.range 0) = #[] from rfl, Array.map_empty]
  unfold Hv.Gives execOp
  simp only [ho, List.map_toArray, List.map_nil, Sem.run_bind, hr, Result.andThen_ok, Sem.run_pure]
  exact h _ _ rfl (by simpa using hs.alloc [] e)
theorem mk (hs : St w0 X L w) {ty : TypeId} {x y : Operand} (ho : o.op = .makeSlice ty x y) {e : TypeId} (ht : P.underlying ty = some (.slice e)) {z : Value} {s b : Nat} (hi : (P.info? e).map (fun i => (i.zero, i.size, i.bytes)) = some (some z, s, b)) (hz : z.cells.size = s) (n m : Nat) {u v : Int} (hx : a.eval x = .int .i64 u) (hy : a.eval y = .int .i64 v) (hu : u = (n : Int)) (hv : v = (m : Int)) (hnm : n ≤ m) (hb : b * m ≤ 281474976710656) (h63 : m ≤ 9223372036854775807)
    (h : ∀ (w' : World) (g : Nat), g = w.heap.size → St w0 X (.blk g e (List.replicate m z.cells.toList).flatten :: L) w' → G (.slice (some ⟨g, 0, none⟩) n m) w') : Hv.Gives P o a w G := by
  subst hu hv
  cases hq : P.info? e with
  | none => simp [hq] at hi
  | some i =>
    simp only [hq, Option.map_some, Option.some.injEq, Prod.mk.injEq] at hi
    obtain ⟨h1, h2, h3⟩ := hi
    have hbI : (i.bytes : Int) * (m : Int) ≤ 281474976710656 := by
      have : ((i.bytes * m : Nat) : Int) ≤ 281474976710656 := by rw [h3]; omega
      rwa [Int.natCast_mul] at this
    have hr := run_make (P := P) w ty e i z ht hq h1 .i64 .i64 n m (by omega) (by omega) hbI (by omega)
    simp only [Int.toNat_natCast, h2] at hr
    have hmade : (madeCells z.cells (m * s)).toList = (List.replicate m z.cells.toList).flatten := by
      subst hz
      have lf : (List.replicate m z.cells.toList).flatten.length = m * z.cells.size := by simp [List.length_flatten]
      apply List.ext_getElem
      · unfold madeCells; simp
      · intro j h1 h2
        rw [lf] at h2
        unfold madeCells
        have hsz : 0 < z.cells.size := by
          rcases Nat.eq_zero_or_pos z.cells.size with h0 | h0
          · rw [h0] at h2; simp at h2
          · exact h0
        have key : ∀ (m j : Nat) (hj : j < (List.replicate m z.cells.toList).flatten.length), (List.replicate m z.cells.toList).flatten[j] = z.cells[j % z.cells.size]'(Nat.mod_lt _ hsz) := by
          intro m
          induction m with
          | zero => intro j hj; simp at hj
          | succ m ih =>
            intro j hj
            simp only [List.replicate_succ, List.flatten_cons]
            by_cases hlt : j < z.cells.size
            · rw [List.getElem_append_left (by simpa using hlt)]
              simp [Nat.mod_eq_of_lt hlt]
            · rw [List.getElem_append_right (by simpa using hlt), ih]
              simp only [Array.length_toList]
              congr 1
              exact (Nat.mod_eq_sub_mod (by omega)).symm
        rw [key]
        have hm : j % z.cells.size < z.cells.size := Nat.mod_lt _ hsz
        simp [hm]
    unfold Hv.Gives execOp
    simp only [ho, hx, hy, Sem.run_bind, hr, Result.andThen_ok, Sem.run_pure]
    refine h _ _ rfl ?_
    have := hs.alloc (madeCells z.cells (m * s)).toList e
    rw [hmade] at this
    have e2 : (List.replicate m z.cells.toList).flatten.toArray = madeCells z.cells (m * s) := by rw [← hmade]
    rw [e2] at this
    exact this
/-- append: what is appended is read somewhere else. -/
theorem run_append_ow {t ty e : TypeId} {z : Value} {s b : Nat} (ht : P.underlying t = some (.slice e)) (hinfo : (P.info? e).map (fun i => (i.zero, i.size, i.bytes)) = some (some z, s, b)) (hz : z.cells.size = s) (hs0 : 0 < s)
    {r : Option Nat} {A B : Option Addr} {c n m cy : Nat} {xs ys : List Value} (hO : Ow w s r A n c xs) (hR : Rd w B ys) (hy : ∀ v ∈ ys, v.oneCell' = true) (hm : ys.length = m * s) (hle : (n + m) * b ≤ 140737488355328) (h63 : n + m ≤ 4611686018427387904) :
    ∃ A' c' r' w', (Builtin.append_ #[t, t] ty #[.slice A n c, .slice B m cy]).run P w = .ok (.slice A' (n + m) c') w' ∧ Ow w' s r' A' (n + m) c' (xs ++ ys) ∧ w.grownBy w' r ∧ (r' = r ∨ r' = some w.heap.size) := by
  cases hi : P.info? e with
  | none => simp [hi] at hinfo
  | some i =>
    simp only [hi, Option.map_some, Option.some.injEq, Prod.mk.injEq] at hinfo
    obtain ⟨hz1, hs1, hby⟩ := hinfo
    obtain ⟨hxl, hnc, hcase⟩ := hO
    by_cases hy0 : ys = []
    · subst hy0
      have hm0 : m = 0 := by
        rcases Nat.eq_zero_or_pos m with h | h
        · exact h
        · have := Nat.mul_pos h hs0; simp at hm; omega
      subst hm0
      have hsrc : Src P i.size t (.slice B 0 cy) 0 [] w := ⟨.inl ⟨e, ht⟩, fun w' => by simp [Builtin.lenOf], by cases B <;> simp [Builtin.firstCells, loadCells, loadCellsFrom], by cases B <;> simp [Builtin.firstCells, loadCells, loadCellsFrom], by simp, by simp⟩
      have hr := run_append_nothing (P := P) w t t ty e i ht hi A n c hnc (.slice B 0 cy) hsrc
      exact ⟨A, c, r, w, by simpa using hr, by simpa using ⟨hxl, hnc, hcase⟩, ⟨rfl, rfl, rfl, Nat.le_refl _, fun _ _ _ => rfl⟩, .inl rfl⟩
    · obtain ⟨g2, o2, rfl, _, hc2⟩ := hR.cells hy0
      have hp : 0 < m := by
        rcases Nat.eq_zero_or_pos m with h | h
        · subst h; simp at hm; exact absurd hm hy0
        · exact h
      have hnews : ∀ j u, ys[j]? = some u → w.cell? ((⟨g2, o2, none⟩ : Addr).add j) = some u := fun j u hu => by
        rw [Addr.add_lit, hc2 j (List.getElem?_eq_some_iff.1 hu).1]; exact hu
      have hmax : (maxLen : Nat) = 9223372036854775807 := rfl
      have hge := grownCap_ge w (n + m) c e
      have hcm := grownCap_le_maxLen w (n + m) c e (by omega)
      by_cases hroom : n + m ≤ c
      · rcases hcase with ⟨rfl, rfl⟩ | ⟨g, off, l, t', rfl, rfl, hb, hl, hmx, hx⟩
        · omega
        · have hcs : n * s + m * s ≤ c * s := by rw [← Nat.add_mul]; exact Nat.mul_le_mul_right _ hroom
          have hr := run_append_room_cells (P := P) w t ty e i ht hi g off n c ⟨g2, o2, none⟩ m cy ys (by rw [hs1]; exact hm) hnews hy hroom
            (fun j hj => by rw [hb.cell, hs1]; simp; omega) (fun j hj => hb.frozen _)
          rw [hs1] at hr
          refine ⟨_, _, some g, _, hr, ⟨by rw [List.length_append, hxl, hm, Nat.add_mul], hroom, .inr ⟨g, off, _, t', rfl, rfl, hb.setCells ys (off + n * s) (by omega), ?_, hmx, ?_⟩⟩, ⟨?_, ?_, ?_, ?_, ?_⟩, .inl rfl⟩
          · simp only [List.length_append, List.length_take, List.length_drop]; omega
          · have e1 : (l.take (off + n * s) ++ ys ++ l.drop (off + n * s + ys.length)).drop off = xs ++ ys ++ l.drop (off + n * s + ys.length) := by
              rw [List.append_assoc, List.drop_append_of_le_length (by rw [List.length_take]; omega), List.drop_take, Nat.add_sub_cancel_left, hx, List.append_assoc]
            rw [e1, Nat.add_mul, ← hxl, ← hm, ← List.length_append]
            exact List.take_left
          · exact (Li.below_setCells ys _ w g (Below.refl 0 w) (Nat.zero_le _)).os
          · exact (Li.below_setCells ys _ w g (Below.refl 0 w) (Nat.zero_le _)).tape
          · exact (Li.below_setCells ys _ w g (Below.refl 0 w) (Nat.zero_le _)).output
          · rw [Li.size_setCells]; exact Nat.le_refl _
          · intro k _ hk
            exact Li.heap_setCells_other ys _ w g k (fun h => hk (by rw [h]))
      · have hx2 : xs.length = n * i.size := by rw [hs1, hxl]
        have hy2 : ys.length = m * i.size := by rw [hs1, hm]
        have hgrown : ∀ (q : Nat) (cs : Array Value) (hq : n + m ≤ q) (hqm : q ≤ maxLen) (hcs : cs.size = q * s) (hpre : cs.toList.take ((n + m) * s) = xs ++ ys),
            Ow (w.drew.alloc (.cells cs e)) s (some w.heap.size) (some ⟨w.heap.size, 0, none⟩) (n + m) q (xs ++ ys) ∧ w.grownBy (w.drew.alloc (.cells cs e)) r := by
          intro q cs hq hqm hcs hpre
          refine ⟨⟨by rw [List.length_append, hxl, hm, Nat.add_mul], hq, .inr ⟨w.heap.size, 0, cs.toList, e, rfl, rfl, ?_, by simp [hcs], hqm, by rw [List.drop_zero]; exact hpre⟩⟩, ⟨rfl, rfl, rfl, by simp, fun k hk _ => Below.heap_alloc w.drew _ k hk⟩⟩
          exact Blk.new w.drew cs.toList e
        have holdsA : ∀ ad, A = some ad → ∀ j v, xs[j]? = some v → w.cell? (ad.add j) = some v := by
          intro ad hA j v hv
          rcases Ow.rd ⟨hxl, hnc, hcase⟩ with rfl | ⟨g, off, h1, h2⟩
          · simp at hv
          · rw [hA] at h1; cases h1
            rw [Addr.add_lit, h2 j (List.getElem?_eq_some_iff.1 hv).1]; exact hv
        cases A with
        | some ad =>
          have hr := run_append_grow (P := P) w t ty e i z ht hi hz1 ad n c xs hx2 (holdsA ad rfl) ⟨g2, o2, none⟩ m cy ys hy2 hnews (by omega) (by omega) (growslice_fits (by omega) (by rw [hby]; omega))
          obtain ⟨k1, k2⟩ := hgrown (grownCap w (n + m) c e) (xs.toArray ++ ys.toArray ++ Builtin.zeroCells z.cells (grownCap w (n + m) c e - (n + m))) hge hcm
            (by
              simp only [Array.size_append, List.size_toArray, size_zeroCells, hz, hxl, hm]
              rw [← Nat.add_mul, ← Nat.add_mul]; congr 1; omega)
            (by
              simp only [Array.toList_append, List.append_assoc]
              rw [← List.append_assoc, Nat.add_mul, ← hxl, ← hm, ← List.length_append]; exact List.take_left)
          exact ⟨_, _, _, _, hr, k1, k2, .inr rfl⟩
        | none =>
          have h0 : c = 0 ∧ r = none := by
            rcases hcase with h | ⟨g, off, l, t, h, _⟩
            · exact h
            · cases h
          obtain ⟨rfl, rfl⟩ := h0
          obtain rfl : n = 0 := by omega
          obtain rfl : xs = [] := List.eq_nil_of_length_eq_zero (by simpa using hxl)
          have hr := run_append_nil (P := P) w t ty e i z ht hi hz1 ⟨g2, o2, none⟩ m cy ys hy2 hnews hp (by omega) (by rw [hby]; simp at hle; omega)
          obtain ⟨k1, k2⟩ := hgrown (grownCap w m 0 e) (ys.toArray ++ Builtin.zeroCells z.cells (grownCap w m 0 e - m)) (by simpa using hge) (by simpa using hcm)
            (by
              simp only [Array.size_append, List.size_toArray, size_zeroCells, hz, hm]
              rw [← Nat.add_mul]; congr 1
              have : m ≤ grownCap w m 0 e := by simpa using hge
              omega)
            (by simp only [Array.toList_append, Nat.zero_add, List.nil_append, ← hm]; exact List.take_left)
          exact ⟨_, _, _, _, by simpa using hr, k1, k2, .inr rfl⟩
theorem St.appendAt (k : Nat) {s : Nat} {r r' : Option Nat} {A A' : Option Addr} {n n' c c' : Nat} {xs ys : List Value} (hk : L[k]? = some (.own s r A n c xs)) (hs : St w0 X L w) {w' : World} (hO : Ow w' s r' A' n' c' ys) (hg : w.grownBy w' r) (hr : r' = r ∨ r' = some w.heap.size) : St w0 X (L.set k (.own s r' A' n' c' ys)) w' := by
  refine St.turnAt k hk hs (Fr.grown hg fun g hg => by simp [At.owned, hg]) hO trivial (by cases r' <;> simp [At.owned]) ?_
  intro b hb
  rcases hr with rfl | rfl
  · exact .inl hb
  · simp [At.owned] at hb ⊢; omega
theorem ap (k : Nat) (hs : St w0 X L w) {x y : Operand} {t e : TypeId} (ho : o.op = .call { callee := .builtin .append, args := #[x, y], argTypes := #[t, t] })
    {s : Nat} {r : Option Nat} {A B : Option Addr} {n c m cy : Nat} (hx : a.eval x = .slice A n c) (hy : a.eval y = .slice B m cy) {xs : List Value} (hk : L[k]? = some (.own s r A n c xs)) {ys : List Value} (hr : Reads L B ys)
    {z : Value} {b : Nat} (ht : P.underlying t = some (.slice e)) (hinfo : (P.info? e).map (fun i => (i.zero, i.size, i.bytes)) = some (some z, s, b)) (hz : z.cells.size = s) (hs0 : 0 < s)
    (h1 : ∀ v ∈ ys, v.oneCell' = true) (hm : ys.length = m * s) (hle : (n + m) * b ≤ 140737488355328) (h63 : n + m ≤ 4611686018427387904)
    (h : ∀ (w' : World) (r' : Option Nat) (A' : Option Addr) (c' : Nat), St w0 X (L.set k (.own s r' A' (n + m) c' (xs ++ ys))) w' → G (.slice A' (n + m) c') w') : Hv.Gives P o a w G := by
  obtain ⟨A', c', r', w', hr, h2, h3, h4⟩ := run_append_ow (P := P) (ty := o.type) (cy := cy) ht hinfo hz hs0 (hs.hold _ (List.mem_of_getElem? hk)) (hr w hs.hold) h1 hm hle h63
  unfold Hv.Gives execOp
  simp only [ho, resolve, invoke, builtin, Sem.run_bind, Sem.run_pure, Result.andThen_ok, List.map_toArray, List.map_cons, List.map_nil, hx, hy, hr]
  exact h w' r' A' c' (St.appendAt k hk hs h2 h3 h4)
/-- copy into a block of one's own. -/
theorem cp (k : Nat) (hs : St w0 X L w) {x y : Operand} {t u e : TypeId} (ho : o.op = .call { callee := .builtin .copy, args := #[x, y], argTypes := #[t, u] })
    {g off n c m cy : Nat} {B : Option Addr} (hx : a.eval x = .slice (some ⟨g, off, none⟩) n c) (hy : a.eval y = .slice B m cy) {te : TypeId} {l : List Value} (hk : L[k]? = some (.blk g te l)) {ys : List Value} (hr : Reads L B ys)
    (ht : P.underlying t = some (.slice e)) (hi : (P.info? e).map (·.size) = some 1) (h1 : ∀ v ∈ ys, v.oneCell' = true) (hm : ys.length = m) (hl : off + n ≤ l.length)
    (h : ∀ (w' : World), St w0 X (L.set k (.blk g te (l.take off ++ (ys.take n ++ l.drop (off + (ys.take n).length))))) w' → G (goInt (ys.take n).length) w') : Hv.Gives P o a w G := by
  have hb : Blk w g l te := hs.hold _ (List.mem_of_getElem? hk)
  have hlen : (ys.take n).length = Nat.min m n := by rw [List.length_take, hm, Nat.min_comm]
  by_cases h0 : ys.take n = []
  · have hn0 : Nat.min m n = 0 := by rw [← hlen, h0]; rfl
    have hrun := run_copy_none (P := P) w t u o.type e (some ⟨g, off, none⟩) B n c m cy ht hi hn0
    unfold Hv.Gives execOp
    simp only [ho, resolve, invoke, builtin, Sem.run_bind, Sem.run_pure, Result.andThen_ok, List.map_toArray, List.map_cons, List.map_nil, hx, hy, hrun]
    have := h w (by
      rw [h0]
      simp only [List.length_nil, Nat.add_zero, List.nil_append, List.take_append_drop]
      exact St.turnAt k hk hs (Fr.refl _ w) hb trivial (by simp [At.owned]) (by simp [At.owned]))
    rw [h0] at this
    exact this
  · have hne : ys ≠ [] := fun h => h0 (by simp [h])
    obtain ⟨g2, o2, rfl, _, hc2⟩ := (hr w hs.hold).cells hne
    have hrun := run_copy_row (P := P) w t u o.type e g off n c ⟨g2, o2, none⟩ m cy l.toArray te (ys.take n) ht hi hb hlen
      (fun j v hv => by
        have hj := (List.getElem?_eq_some_iff.1 hv).1
        rw [List.length_take] at hj
        rw [List.getElem?_take_of_lt (by omega)] at hv
        rw [Addr.add_lit, hc2 j (by omega)]; exact hv)
      (by simp only [List.size_toArray]; rw [List.length_take]; omega) (fun v hv => h1 v (List.mem_of_mem_take hv))
    unfold Hv.Gives execOp
    simp only [ho, resolve, invoke, builtin, Sem.run_bind, Sem.run_pure, Result.andThen_ok, List.map_toArray, List.map_cons, List.map_nil, hx, hy, hrun]
    refine h _ ?_
    refine St.turnAt k hk hs ⟨rfl, rfl, rfl, by simp [World.setRow], fun b _ hX => setRow_other w g b _ (by simpa [At.owned] using hX)⟩ ?_ trivial (by simp [At.owned]) (by simp [At.owned])
    have e := setRow_heap w g l.toArray ((l.take off ++ (ys.take n ++ l.drop (off + (ys.take n).length))).toArray) te (0, 0) hb
    rw [← List.append_assoc] at e ⊢
    exact e
theorem Ow.at_ {w : World} {s : Nat} {r : Option Nat} {A : Option Addr} {n c : Nat} {xs : List Value} (h : Ow w s r A n c xs) (hn : 0 < n) : ∃ g off, A = some ⟨g, off, none⟩ ∧ r = some g := by
  obtain ⟨h1, h2, h | ⟨g, off, l, t, hA, hr, _⟩⟩ := h
  · omega
  · exact ⟨g, off, hA, hr⟩
theorem St.own_at (k : Nat) {s : Nat} {r : Option Nat} {A : Option Addr} {n c : Nat} {xs : List Value} (hs : St w0 X L w) (hk : L[k]? = some (.own s r A n c xs)) (hn : 0 < n) : ∃ g off, A = some ⟨g, off, none⟩ ∧ r = some g := (show Ow w s r A n c xs from hs.hold _ (List.mem_of_getElem? hk)).at_ hn
theorem Ow.set {w : World} {s g off n c i : Nat} {xs : List Value} (h : Ow w s (some g) (some ⟨g, off, none⟩) n c xs) (hi : i < xs.length) (v : Value) : Ow (w.setCell ⟨g, off + i, none⟩ v) s (some g) (some ⟨g, off, none⟩) n c (xs.set i v) ∧ (w.cell? ⟨g, off + i, none⟩).isSome = true ∧ w.frozen? ⟨g, off + i, none⟩ = false := by
  obtain ⟨h1, h2, h | ⟨g', off', l, t, hA, hr, hb, h3, h4, h5⟩⟩ := h
  · have : n = 0 := by omega
    subst this; omega
  · cases hA; cases hr
    have hns : n * s ≤ c * s := Nat.mul_le_mul_right _ h2
    refine ⟨⟨by simpa using h1, h2, .inr ⟨g, off, l.set (off + i) v, t, rfl, rfl, hb.set _ v, by simpa using h3, h4, ?_⟩⟩, ?_, hb.frozen _⟩
    · rw [List.drop_set, if_neg (by omega), Nat.add_sub_cancel_left, List.take_set, h5]
    · rw [hb.cell]
      simp; omega
/-- A cell of a slice of one's own is stored. -/
theorem soo (k : Nat) (hs : St w0 X L w) {ty : TypeId} {x y : Operand} (ho : o.op = .store ty x y) {g off i : Nat} (hx : a.eval x = .pointer (some ⟨g, off + i, none⟩)) {s n c : Nat} {xs : List Value} (hk : L[k]? = some (.own s (some g) (some ⟨g, off, none⟩) n c xs)) {v : Value} (hy : a.eval y = v) (h1 : v.oneCell' = true) (hi : (P.info? ty).map (·.size) = some 1) (hl : i < xs.length)
    (h : ∀ w', St w0 X (L.set k (.own s (some g) (some ⟨g, off, none⟩) n c (xs.set i v))) w' → G undef w') : Hv.Gives P o a w G := by
  obtain ⟨e1, e2, e3⟩ := Ow.set (hs.hold _ (List.mem_of_getElem? hk)) hl v
  have hr := run_storeAt_cell (P := P) (w := w) (g := g) (i := off + i) (v := v) hi h1 e2 e3
  unfold Hv.Gives execOp
  simp only [ho, hx, hy, Sem.run_bind, hr, Result.andThen_ok, Sem.run_pure]
  exact h _ (St.turnAt k hk hs ((Fr.refl _ w).setCell (by simp [At.owned]) _ _) e1 trivial (by simp [At.owned]) (by simp [At.owned]))
/-- A new slice of one's own. -/
theorem St.ofOs (hs : St w0 X L w) {w' : World} {t : TypeId} {r : Option Nat} {A : Option Addr} {n c : Nat} {xs : List Value} (ho : Li.Os w' t r A c xs) (hb : Below w.heap.size w w') (hr : r = none ∨ w.heap.size ≤ r.getD 0) (hn : n = xs.length) : St w0 X (.own 1 r A n c xs :: L) w' := by
  subst hn
  refine St.turn (P := []) (P' := [.own 1 r A xs.length c xs]) hs (Fr.ext hb) ?_ (by simp [At.noRd]) (by cases r <;> simp [ownedL, At.owned]) ?_
  · simp only [List.mem_singleton, forall_eq, At.holds]
    have hle := ho.le
    rcases ho with ⟨rfl, rfl, rfl⟩ | ⟨g, off, l, h1, h2, h3, h4, h5, h6, h7⟩
    · exact ⟨by simp, by simp, .inl ⟨rfl, rfl⟩⟩
    · exact ⟨by simp, hle, .inr ⟨g, off, l, t, h1, h2, h3, by simpa using h4, h6, by simpa using h7⟩⟩
  · intro b hb
    simp only [ownedL, List.flatMap_cons, List.flatMap_nil, List.append_nil, At.owned] at hb ⊢
    rcases hr with rfl | hr
    · simp at hb
    · cases r with
      | none => simp at hb
      | some g => simp at hb hr; subst hb; exact .inr hr
theorem run_eqItems_self (d : Nat) {e : TypeId} {k : IntKind} (he : P.underlying e = some (.int k)) (l : List Value) : ∀ (is : List Nat), (∀ i ∈ is, ∃ z, l[i]? = some (.int k z)) → (Op.eqItems (d + 1) e 1 l.toArray l.toArray is).run P w = .ok true w
  | [], _ => by simp [Op.eqItems]
  | i :: is, h => by
    obtain ⟨z, hz⟩ := h i List.mem_cons_self
    have hp : (part e l.toArray (i * 1)).run P w = .ok (.int k z) w := by
      have hr : (isAgg e).run P w = .ok false w := run_isRow (by rw [he]; rfl) w
      simp [part, hr, hz]
    have ih := run_eqItems_self d he l is fun j hj => h j (List.mem_cons_of_mem _ hj)
    simp only [Op.eqItems, Sem.run_bind, hp, Result.andThen_ok, run_equalIn_int _ _ _ _ _ _ _ he]
    simpa using ih
theorem run_eql_self {t e : TypeId} {n : Nat} {k : IntKind} (ht : P.underlying t = some (.array n e)) (he : P.underlying e = some (.int k)) (hc : P.cellsOf e = 1) (hi : (P.info? e).isSome = true) (l : List Value) (hl : ∀ i, i < n → ∃ z, l[i]? = some (.int k z)) :
    (Op.equalIn 10000 t (.agg l.toArray) (.agg l.toArray)).run P w = .ok true w := by
  obtain ⟨i, hi⟩ := Option.isSome_iff_exists.1 hi
  rw [run_equalIn_array w 9999 l.toArray l.toArray ht hi, hc]
  exact run_eqItems_self 9998 he l (List.range n) fun j hj => hl j (List.mem_range.1 hj)
/-- Two equal arrays of integers. -/
theorem eqa {t u : TypeId} {x y : Operand} (ho : o.op = .binOp .eql t x y u) {l : List Value} (hx : a.eval x = .agg l.toArray) (hy : a.eval y = .agg l.toArray) {e : TypeId} {n : Nat} {k : IntKind} (ht : P.underlying t = some (.array n e)) (he : P.underlying e = some (.int k)) (hc : P.cellsOf e = 1) (hi : (P.info? e).isSome = true) (hm : P.eqGuardType P.depth t = false)
    (hl : ∀ i, i < n → ∃ z, l[i]? = some (.int k z)) (h : G (.bool true) w) : Hv.Gives P o a w G := by
  unfold Hv.Gives execOp
  simp only [ho, hx, hy, Sem.run_bind, run_eqGuard_agg w .eql t _ _ _ _ hm, Result.andThen_ok, run_eql_struct, run_eql_self ht he hc hi l hl, Sem.run_pure]
  exact h
theorem nea {t u : TypeId} {x y : Operand} (ho : o.op = .binOp .neq t x y u) {l : List Value} (hx : a.eval x = .agg l.toArray) (hy : a.eval y = .agg l.toArray) {e : TypeId} {n : Nat} {k : IntKind} (ht : P.underlying t = some (.array n e)) (he : P.underlying e = some (.int k)) (hc : P.cellsOf e = 1) (hi : (P.info? e).isSome = true) (hm : P.eqGuardType P.depth t = false)
    (hl : ∀ i, i < n → ∃ z, l[i]? = some (.int k z)) (h : G (.bool false) w) : Hv.Gives P o a w G := by
  unfold Hv.Gives execOp
  simp only [ho, hx, hy, Sem.run_bind, run_eqGuard_agg w .neq t _ _ _ _ hm, Result.andThen_ok, run_neq_struct, run_eql_self ht he hc hi l hl, Sem.run_pure]
  exact h
theorem St.addRd (h : St w0 X L w) {A : Option Addr} {xs : List Value} (hr : Rd w A xs) (hf : ∀ b ∈ ownedL L, (At.rd A xs).far b) : St w0 X (.rd A xs :: L) w := by
  refine ⟨?_, h.nd, ?_, h.may, h.fr⟩
  · intro a ha
    rcases List.mem_cons.1 ha with rfl | ha
    · exact hr
    · exact h.hold a ha
  · intro a ha b hb
    have hb' : b ∈ ownedL L := hb
    rcases List.mem_cons.1 ha with rfl | ha
    · exact hf b hb'
    · exact h.sep a ha b hb'
theorem freeze_blk {g : Nat} {t : TypeId} {l : List Value} (h : Blk w g l t) (k : Nat) : (w.freeze ⟨g, k, none⟩ 1).heap[g]? = some (.cells l.toArray t (k, k + 1)) := by
  unfold Blk at h
  simp [World.freeze, Array.getElem?_modify, h]
theorem freeze_fr (w : World) (g k : Nat) : Fr (· = g) w (w.freeze ⟨g, k, none⟩ 1) := by
  refine ⟨rfl, rfl, rfl, by simp [World.freeze], fun b _ hb => ?_⟩
  have : ¬ g = b := fun e => hb e.symm
  simp [World.freeze, Array.getElem?_modify, this]
/-- A constant string as bytes: only read from here on. -/
theorem cvs {g : Nat} {t : TypeId} {l : List Value} (hs : St w0 X (.blk g t l :: L) w) {src e : TypeId} {x : Operand} (ho : o.op = .convert src src x) {n c : Nat} (hx : a.eval x = .slice (some ⟨g, 0, none⟩) n c) (h1 : P.underlying src = some (.slice e)) (h3 : P.underlying e = some (.int .u8))
    (h : ∀ w', St w0 X (.rd (some ⟨g, 0, none⟩) l :: L) w' → G (.slice (some ⟨g, 0, none⟩) n c) w') : Hv.Gives P o a w G := by
  have hb : Blk w g l t := hs.hold _ List.mem_cons_self
  have hsh : w.shape? g = some (t, l.length) := by unfold Blk at hb; simp [World.shape?, hb]
  have hr : (convert src src (.slice (some ⟨g, 0, none⟩) n c)).run P w = .ok (.slice (some ⟨g, 0, none⟩) n c) (w.freeze ⟨g, l.length, none⟩ 1) := by
    simp [convert, run_underlying h1, run_underlying h3, markStringish, hsh]
  have hf := freeze_blk hb l.length
  have hnd := hs.nd
  simp only [ownedL, List.flatMap_cons, List.nodup_append] at hnd
  have hL : St w0 X L (w.freeze ⟨g, l.length, none⟩ 1) := by
    refine St.turn (P := [.blk g t l]) (P' := []) hs ?_ (by simp) (by simp) (by simp [ownedL]) (by simp [ownedL])
    exact (freeze_fr w g l.length).mono fun b _ hb => by simp [ownedL, At.owned]; exact hb
  unfold Hv.Gives execOp
  simp only [ho, hx, Sem.run_bind, hr, Result.andThen_ok, Sem.run_pure]
  refine h _ (hL.addRd (.inr ⟨g, 0, rfl, fun i hi => ?_⟩) ?_)
  · rw [Nat.zero_add, cell_of_row _ g i _ t _ hf]; simp
  · intro b hb2 hx a ha
    cases ha
    exact fun e => hnd.2.2 g (by simp [At.owned]) b hb2 e
/-! ### The same for a region that draws its order -/
theorem xl {ρ : Operand → Value} {ty : TypeId} {x : Operand} (ho : o.op = .load ty x) {g i : Nat} (hx : ρ x = .pointer (some ⟨g, i, none⟩)) {v : Value} (hc : w.cell? ⟨g, i, none⟩ = some v) (hd : (P.underlying ty).map TypeDesc.isRow = some false) : (execOp ρ o).run P w = .ok (.value v) w := by
  unfold execOp
  simp only [ho, hx, Sem.run_bind, run_loadAt_cell hd hc, Result.andThen_ok, Sem.run_pure]
theorem xla {ρ : Operand → Value} {ty : TypeId} {x : Operand} (ho : o.op = .load ty x) {g i : Nat} (hx : ρ x = .pointer (some ⟨g, i, none⟩)) {xs : List Value} (hr : Rd w (some ⟨g, i, none⟩) xs) (hi : (P.info? ty).map (·.size) = some xs.length) (hd : (P.underlying ty).map TypeDesc.isRow = some true) : (execOp ρ o).run P w = .ok (.value (.agg xs.toArray)) w := by
  cases hu : P.underlying ty with
  | none => simp [hu] at hd
  | some d =>
    simp only [hu, Option.map_some, Option.some.injEq] at hd
    have hc : w.rangeAt g i xs := by
      intro j v hv
      have hj := (List.getElem?_eq_some_iff.1 hv).1
      rcases hr with rfl | ⟨g', off, e, h⟩
      · simp at hj
      · cases e; rw [h j hj, hv]
    unfold execOp
    simp only [ho, hx, Sem.run_bind, run_loadAt_mid (P := P) w g i ty xs d hc hu hd hi, Result.andThen_ok, Sem.run_pure]
theorem xeq {ρ : Operand → Value} {t u : TypeId} {x y : Operand} (ho : o.op = .binOp .eql t x y u) {l : List Value} (hx : ρ x = .agg l.toArray) (hy : ρ y = .agg l.toArray) {e : TypeId} {n : Nat} {k : IntKind} (ht : P.underlying t = some (.array n e)) (he : P.underlying e = some (.int k)) (hc : P.cellsOf e = 1) (hi : (P.info? e).isSome = true) (hm : P.eqGuardType P.depth t = false)
    (hl : ∀ i, i < n → ∃ z, l[i]? = some (.int k z)) : (execOp ρ o).run P w = .ok (.value (.bool true)) w := by
  unfold execOp
  simp only [ho, hx, hy, Sem.run_bind, run_eqGuard_agg w .eql t _ _ _ _ hm, Result.andThen_ok, run_eql_struct, run_eql_self ht he hc hi l hl, Sem.run_pure]
theorem xne {ρ : Operand → Value} {t u : TypeId} {x y : Operand} (ho : o.op = .binOp .neq t x y u) {l : List Value} (hx : ρ x = .agg l.toArray) (hy : ρ y = .agg l.toArray) {e : TypeId} {n : Nat} {k : IntKind} (ht : P.underlying t = some (.array n e)) (he : P.underlying e = some (.int k)) (hc : P.cellsOf e = 1) (hi : (P.info? e).isSome = true) (hm : P.eqGuardType P.depth t = false)
    (hl : ∀ i, i < n → ∃ z, l[i]? = some (.int k z)) : (execOp ρ o).run P w = .ok (.value (.bool false)) w := by
  unfold execOp
  simp only [ho, hx, hy, Sem.run_bind, run_eqGuard_agg w .neq t _ _ _ _ hm, Result.andThen_ok, run_neq_struct, run_eql_self ht he hc hi l hl, Sem.run_pure]
  rfl
theorem fill_one (v : Value) (h : v.oneCell' = true) : v.cells = #[v] := by cases v <;> simp_all [Value.cells, Value.oneCell']
theorem fill_scalars : ∀ (vs : List Value) (k : Nat) (cs : List Value), (∀ v ∈ vs, v.oneCell' = true) → k + vs.length ≤ cs.length →
    Instr.fill (fun i => some (i * 1, 1)) cs.toArray ((vs.zipIdx k).map fun p => (p.2, p.1)) = some (cs.take k ++ vs ++ cs.drop (k + vs.length)).toArray
  | [], k, cs, _, _ => by simp [Instr.fill]
  | v :: vs, k, cs, h, hk => by
    simp only [List.length_cons] at hk
    have ih := fill_scalars vs (k + 1) (cs.set k v) (fun u hu => h u (List.mem_cons_of_mem _ hu)) (by simp; omega)
    simp only [List.zipIdx_cons, List.map_cons, Instr.fill, fill_one v (h v List.mem_cons_self)]
    rw [if_neg (by simp; omega)]
    have e1 : (#[v].zipIdx.foldl (fun cs (x : Value × Nat) => cs.setIfInBounds (k * 1 + x.2) x.1) cs.toArray) = (cs.set k v).toArray := by
      simp
    rw [e1, ih]
    congr 2
    rw [List.take_succ_eq_append_getElem (by simp; omega), List.getElem_set_self, List.take_set_of_le (Nat.le_refl _), List.drop_set_of_lt (by omega)]
    simp [Nat.add_comm, Nat.add_left_comm]
/-- A literal slice of scalars. -/
theorem bsv (hs : St w0 X L w) {ty : TypeId} {n : Nat} {l : List (Nat × Operand)} (ho : o.op = .buildSlice ty n l.toArray) {e : TypeId} (ht : P.underlying ty = some (.slice e)) {z : Value} (hi : (P.info? e).map (fun i => (i.zero, i.size)) = some (some z, 1)) (hz : z.cells.size = 1) (vs : List Value) (hv : l.map (fun p => (p.1, a.eval p.2)) = vs.zipIdx.map fun p => (p.2, p.1)) (hn : n = vs.length) (h0 : n ≠ 0) (hb : n ≤ 16777216) (h1 : ∀ v ∈ vs, v.oneCell' = true)
    (h : ∀ (w' : World) (g : Nat), g = w.heap.size → St w0 X (.blk g e vs :: L) w' → G (.slice (some ⟨g, 0, none⟩) n n) w') : Hv.Gives P o a w G := by
  refine bs hs ho ht hi (by omega) (by omega) (cs := vs.toArray) ?_ h
  have e2 : ((Array.range (n * 1)).map (z.cells[· % z.cells.size]!)) = (List.replicate n (z.cells[0]!)).toArray := by
    rw [hz]
    apply Array.ext
    · simp
    · intro i h1 h2; simp [Nat.mod_one]
  have e3 : (l.toArray.map fun (i, x) => (i, a.eval x)).toList = (vs.zipIdx 0).map fun p => (p.2, p.1) := by
    rw [← hv]; simp
  rw [e2, e3, fill_scalars vs 0 _ h1 (by simp [hn])]
  simp [hn]
end
end Se
end Go.Proofs.Ytgpbmohfgjmpkaa

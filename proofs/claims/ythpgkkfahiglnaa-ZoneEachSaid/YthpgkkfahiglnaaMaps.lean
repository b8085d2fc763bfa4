/- Maps with keys of an integer type, as pieces of memory: made, filled, asked. No condition but Go's own limits. -/
import Derived.Test.YthpgkkfahiglnaaBaseB
import Derived.MapKept
namespace Go.Proofs.Ythpgkkfahiglnaa
open Go Go.RowKit
namespace Se
open Li (Blk Rd Fr)
def me (kd : IntKind) (z : Int) (v : Value) (c : Nat) : MapEntry := { key := .int kd z, val := v, born := c }
def mpa (g : Nat) (es : List MapEntry) (c : Nat) : At := .abs [g] (fun w => w.heap[g]? = some (.map es.toArray c))
 (fun w h b hb => by
  simp only [List.mem_singleton] at hb; subst hb
  exact (Array.getElem?_eq_some_iff.1 h).1)
 (fun w w' h hb => by rw [hb g (by simp)]; exact h)
section
variable {P : Program} {w0 w : World} {X : List Nat} {L : List At} {o : Oper} {a : Act} {G : Value → World → Prop}
theorem mm (hs : St w0 X L w) {ty : TypeId} (ho : o.op = .makeMap ty none)
  (h : ∀ (w' : World) (g : Nat), g = w.heap.size → St w0 X (mpa g [] 0 :: L) w' → G (.map (some g)) w') : Hv.Gives P o a w G := by
 have hr : (Instr.makeMap ty none).run P w = .ok (.map (some w.heap.size)) (w.alloc (.map #[] 0)) := by
  simp [Instr.makeMap, Result.andThen]
 unfold Hv.Gives execOp
 simp only [ho, Option.map_none, Sem.run_bind, hr, Result.andThen_ok, Sem.run_pure]
 refine h _ _ rfl ?_
 refine St.turn (P := []) (P' := [mpa w.heap.size [] 0]) hs (Fr.ext (Hv.Ext.alloc _ _)) ?_ (by simp [At.noRd, mpa]) (by simp [ownedL, At.owned, mpa]) (by simp [ownedL, At.owned, mpa])
 simp only [List.mem_singleton, forall_eq, At.holds, mpa]
 exact (MapKept.heap_alloc w _).1
theorem mi (k : Nat) (hs : St w0 X L w) {ty : TypeId} {m x y : Operand} (ho : o.op = .insert ty m x y) {g : Nat} (hm : a.eval m = .map (some g)) {kd : IntKind} {z : Int} (hx : a.eval x = .int kd z) {es : List MapEntry} {c : Nat} (hk : L[k]? = some (mpa g es c)) {v : Value} (hy : a.eval y = v) {kt et : TypeId} (ht : P.underlying ty = some (.map kt et)) (hd : P.underlying kt = some (.int kd)) (hf : Instr.findNow (.int kd) (.int kd z) es 0 = some none)
  (h : ∀ w', St w0 X (L.set k (mpa g (es ++ [me kd z v c]) (c + 1))) w' → G undef w') : Hv.Gives P o a w G := by
 subst hy
 have hb : w.heap[g]? = some (.map es.toArray c) := hs.hold _ (List.mem_of_getElem? hk)
 have hik : MapKept.IsKey (.int kd) (.int kd z) := by simp [MapKept.IsKey]
 have hr : (Instr.mapUpdate ty (.map (some g)) (.int kd z) (a.eval y)).run P w = .ok () { w with heap := w.heap.setIfInBounds g (.map (es ++ [me kd z (a.eval y) c]).toArray (c + 1)) } := by
  simp [Instr.mapUpdate, run_underlying ht, MapKept.run_getObj_map hb, MapKept.run_checkKey hd hik, MapKept.run_findKey hd hf, MapKept.run_setObj_map _ hb, Result.andThen, me]
 unfold Hv.Gives execOp
 simp only [ho, hm, hx, Sem.run_bind, hr, Result.andThen_ok, Sem.run_pure]
 refine h _ (St.turnAt k hk hs ⟨rfl, rfl, rfl, by simp, fun b _ hX => ?_⟩ ?_ trivial (by simp [At.owned, mpa]) (by simp [At.owned, mpa]))
 ·exact (MapKept.heap_set hb).2 b (by simpa [At.owned, mpa] using hX)
 ·exact (MapKept.heap_set hb).1
theorem ml (hs : St w0 X L w) {ty : TypeId} {m x : Operand} (ho : o.op = .lookup ty m x true) {g : Nat} (hm : a.eval m = .map (some g)) {kd : IntKind} {z : Int} (hx : a.eval x = .int kd z) {es : List MapEntry} {c : Nat} (hk : mpa g es c ∈ L) {kt et : TypeId} (ht : P.underlying ty = some (.map kt et)) (hd : P.underlying kt = some (.int kd)) {zv : Value} (hz : (P.info? et).bind (·.zero) = some zv) {r : Option (Nat × Value)} (hf : Instr.findNow (.int kd) (.int kd z) es 0 = some r)
  (h : G (.tuple #[r.elim zv (·.2), .bool r.isSome]) w) : Hv.Gives P o a w G := by
 have hb : w.heap[g]? = some (.map es.toArray c) := hs.hold _ hk
 have hik : MapKept.IsKey (.int kd) (.int kd z) := by simp [MapKept.IsKey]
 cases hi : P.info? et with
 | none => simp [hi] at hz
 | some i =>
  simp only [hi, Option.bind_some] at hz
  have hr : (Instr.lookup ty (.map (some g)) (.int kd z) true).run P w = .ok (.tuple #[r.elim zv (·.2), .bool r.isSome]) w := by
   cases r with
   | none => simp [Instr.lookup, run_underlying ht, MapKept.run_getObj_map hb, MapKept.run_checkKey hd hik, MapKept.run_findKey hd hf, Result.andThen, zeroValue, typeInfo, hi, hz]
   | some q => simp [Instr.lookup, run_underlying ht, MapKept.run_getObj_map hb, MapKept.run_checkKey hd hik, MapKept.run_findKey hd hf, Result.andThen]
  unfold Hv.Gives execOp
  simp only [ho, hm, hx, Sem.run_bind, hr, Result.andThen_ok, Sem.run_pure]
  exact h
end
end Se
end Go.Proofs.Ythpgkkfahiglnaa


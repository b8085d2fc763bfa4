/- Whole arrays loaded and stored in a region that draws its order. No condition but that the blocks are known. -/
import Derived.Test.YtgpbmohfgjmpkaaHavoc
import Derived.Test.YtgpbmohfgjmpkaaRow
namespace Go.Proofs.Ytgpbmohfgjmpkaa
open Go Go.RowKit
namespace Hv
section
variable {P : Program}
theorem exec_load_blk {o : Oper} {ρ : Operand → Value} {w : World} {ty : TypeId} {x : Operand} (ho : o.op = .load ty x) {g : Nat} (hx : ρ x = .pointer (some ⟨g, 0, none⟩)) {l : List Value} {t : TypeId} {d : TypeDesc} (hg : Li.Blk w g l t)
    (hu : P.underlying ty = some d) (hd : (match d with | .struct _ | .array _ _ => true | _ => false) = true) (hi : (P.info? ty).map (·.size) = some l.length) :
    (execOp ρ o).run P w = .ok (.value (.agg l.toArray)) w := by
  unfold execOp
  simp only [ho, hx, Instr.loadAt, Instr.sureAddr, Sem.run_bind, Sem.run_pure, Result.andThen_ok, run_loadVar_row w g t ty l.toArray (0, 0) d hg hu hd (by simpa using hi)]
theorem gives_store_blk {o : Oper} {a : Act} {w : World} {ty : TypeId} {x y : Operand} (ho : o.op = .store ty x y) {g : Nat} {vs : List Value} (hx : a.eval x = .pointer (some ⟨g, 0, none⟩)) (hy : a.eval y = .agg vs.toArray)
    {l : List Value} {t : TypeId} (hg : Li.Blk w g l t) (hl : vs.length = l.length) (hi : (P.info? ty).map (·.size) = some vs.length) (h1 : ∀ v ∈ vs, v.oneCell' = true) {G : Value → World → Prop} (hG : G undef (w.setCells g 0 vs)) : Gives P o a w G := by
  have hs := run_storeVar_mid (P := P) w g 0 ty vs.toArray (fun j hj => ⟨by rw [Nat.zero_add, hg.cell]; simp at hj; simp [show j < l.length by omega], hg.frozen _⟩) (by simpa using hi) (all_oneCell_toArray h1)
  unfold Gives execOp
  simp only [ho, hx, hy, Instr.storeAt, Instr.sureAddr, Sem.run_bind, Sem.run_pure, Result.andThen_ok, hs]
  exact hG
/-- A store that yields nothing. -/
def unit : Noisy := ⟨fun v => v = undef, fun _ _ => True⟩
theorem unit_ex : ∃ v, unit.vv v := ⟨undef, rfl⟩
end
end Hv
namespace Li
/-- Two results, both whole blocks. -/
theorem results_blk2 {P : Program} {fn : Func} {p q : Tmp} {ty tz : TypeId} (h : fn.results = #[.cell p ty, .cell q tz]) (tmps : Array Value) {w : World} {g k : Nat} {t u : TypeId} {l m : List Value} {d e : TypeDesc}
    (hp : tmps.getD p undef = .pointer (some ⟨g, 0, none⟩)) (hq : tmps.getD q undef = .pointer (some ⟨k, 0, none⟩)) (hg : Blk w g l t) (hk : Blk w k m u)
    (hu : P.underlying ty = some d) (hd : (match d with | .struct _ | .array _ _ => true | _ => false) = true) (hi : (P.info? ty).map (·.size) = some l.length)
    (hu' : P.underlying tz = some e) (hd' : (match e with | .struct _ | .array _ _ => true | _ => false) = true) (hi' : (P.info? tz).map (·.size) = some m.length) :
    (results fn tmps).run P w = .ok (.tuple #[.agg l.toArray, .agg m.toArray]) w := by
  have hp' : tmps[p]?.getD undef = .pointer (some ⟨g, 0, none⟩) := by simpa using hp
  have hq' : tmps[q]?.getD undef = .pointer (some ⟨k, 0, none⟩) := by simpa using hq
  simp [results, h, hp', hq', asAddr, run_loadVar_row w g t ty l.toArray (0, 0) d hg hu hd (by simpa using hi), run_loadVar_row w k u tz m.toArray (0, 0) e hk hu' hd' (by simpa using hi')]
end Li
end Go.Proofs.Ytgpbmohfgjmpkaa

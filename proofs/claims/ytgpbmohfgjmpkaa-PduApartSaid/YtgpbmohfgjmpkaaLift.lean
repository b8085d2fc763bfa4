/- From a walk to a law's row: the arguments opened, and their stay. No condition. -/
import Derived.Test.YtgpbmohfgjmpkaaApp
import Derived.WalkKit
import Derived.ProofKit
import Derived.OpenShut
import Derived.ShutString
import Derived.ChangeOld
import Derived.Below
import Derived.Carry
import Derived.Deep.Matrix
namespace Go.Proofs.Ytgpbmohfgjmpkaa
namespace Lift
open Go Go.ChangeShapes Go.WideShapes Go.ChangeAt Go.RowKit
variable {H : Type} {enc : TypeId × Value → H} {P : Program}
theorem trodAll_lt {W : World} {b : Nat} {sp : Nat → Bool} {hd : Bool} : ∀ {ts : List TypeId} {vs : List Value} {ds : List (DataW H)} {ps : List MemPlace}, DataW.TrodAll enc P W b sp hd ts vs ds ps → ∀ x ∈ ps, x.block < W.heap.size
  | [], vs, ds, ps, h => by
    obtain ⟨_, _, rfl⟩ := trodAll_nil h
    simp
  | t :: ts, vs, ds, ps, h => by
    obtain ⟨v, vs', d, ds', p, q, rfl, rfl, rfl, ⟨m, hm⟩, h2⟩ := trodAll_cons h
    intro x hx
    rcases List.mem_append.1 hx with hx | hx
    · exact DataW.trod_lt m _ _ _ hm x hx
    · exact trodAll_lt h2 x hx
theorem args_stay (hl : laidOutB P = true) {W W' : World} (hb : Below W.heap.size W W') : ∀ {ts : List TypeId} {vs : List Value} {ds : List (DataW H)} {ps : List MemPlace}, (ts.all fun t => P.readableRec t && decide (t < P.types.size)) = true →
    DataW.TrodAll enc P W 0 (fun _ => true) true ts vs ds ps → DataW.TrodAll enc P W' 0 (fun b => decide (b < W.heap.size)) true ts vs ds ps
  | [], vs, ds, ps, _, h => by
    obtain ⟨rfl, rfl, rfl⟩ := trodAll_nil h
    exact trodAll_mk0
  | t :: ts, vs, ds, ps, hts, h => by
    obtain ⟨v, vs', d, ds', p, q, rfl, rfl, rfl, h1, h2⟩ := trodAll_cons h
    simp only [List.all_cons, Bool.and_eq_true, decide_eq_true_eq] at hts
    have lt : ∀ x ∈ p, x.block < W.heap.size := by obtain ⟨m, hm⟩ := h1; exact DataW.trod_lt m _ _ _ hm
    exact trodAll_cons_mk (Below.trod hl hts.1.1 hts.1.2 h1 hb lt) (args_stay hl hb (by simpa using hts.2) h2)
theorem open_bytes {W : World} {r : Reach} {base : Nat} {t e : TypeId} {v : Value} {d : DataW H} {p : List MemPlace} (ht : P.underlying t = some (.slice e)) (he : P.underlying e = some (.int .u8)) (hc : P.cellsOf e = 1) (hv : Value.okWide P W r base t v)
    (h : DataW.Trod enc P W 0 (fun _ => true) true t v d p) : ∃ A n c, ∃ bs : List (BitVec 8), v = .slice A n c ∧ n = bs.length ∧ Li.Rd W A (bs.map Li.v8) := by
  obtain ⟨A, n, c, rfl⟩ := okWide_slice ht hv
  obtain ⟨fuel, hf⟩ := h
  rcases open_ints ht he hc hf with ⟨hcs, _⟩ | ⟨x, l, c', zs, hcs, _, hl, hm, hz, _, hcell, hwz⟩
  · simp [Value.cells] at hcs
    obtain ⟨rfl, rfl, rfl⟩ := hcs
    exact ⟨none, 0, 0, [], rfl, rfl, .inl rfl⟩
  · simp [Value.cells] at hcs
    obtain ⟨rfl, rfl, rfl⟩ := hcs
    simp only [if_true] at hz
    refine ⟨some x, n, c, (zs.take n).map (BitVec.ofInt 8), rfl, by simp; omega, ?_⟩
    by_cases h0 : n = 0
    · subst h0; exact .inl (by simp)
    · obtain ⟨b, off, spot⟩ := x
      have hc0 := hcell 0 (by omega)
      have hspot : spot = none := by simpa [Addr.add] using World.cell?_spot hc0
      subst hspot
      refine .inr ⟨b, off, rfl, fun i hi => ?_⟩
      simp only [List.length_map, List.length_take] at hi
      have hci := hcell i (by omega)
      rw [Addr.add_lit] at hci
      rw [hci]
      have hiz : i < zs.length := by omega
      have hw := hwz (zs[i]) (List.getElem_mem hiz)
      have hr : 0 ≤ zs[i] ∧ zs[i] ≤ 255 := by simpa [Lit.wf, IntKind.min, IntKind.max, IntKind.signed, IntKind.bits] using hw
      have e1 : (zs.take n)[i]? = some zs[i] := by rw [List.getElem?_take_of_lt (by omega), List.getElem?_eq_getElem hiz]
      simp only [List.map_map, List.getElem?_map, e1, Option.map_some, Function.comp, Li.v8, Bv.n8_of]
      rw [List.getD_eq_getElem?_getD, List.getElem?_eq_getElem hiz]
      simp only [Option.getD_some, Option.some.injEq, Value.int.injEq, true_and]
      omega
theorem rd_ints {W : World} {x : Addr} {zs : List Int} {n : Nat} (hn : n ≤ zs.length) (hcell : ∀ i, i < zs.length → W.cell? (x.add i) = some (.int .u8 (zs.getD i 0))) (hwz : ∀ z ∈ zs, (Lit.int .u8 z).wf = true) : Li.Rd W (some x) (((zs.take n).map (BitVec.ofInt 8)).map Li.v8) := by
  by_cases h0 : n = 0
  · subst h0; exact .inl (by simp)
  · obtain ⟨b, off, spot⟩ := x
    have hc0 := hcell 0 (by omega)
    have hspot : spot = none := by simpa [Addr.add] using World.cell?_spot hc0
    subst hspot
    refine .inr ⟨b, off, rfl, fun i hi => ?_⟩
    simp only [List.length_map, List.length_take] at hi
    have hci := hcell i (by omega)
    rw [Addr.add_lit] at hci
    rw [hci]
    have hiz : i < zs.length := by omega
    have hw := hwz (zs[i]) (List.getElem_mem hiz)
    have hr : 0 ≤ zs[i] ∧ zs[i] ≤ 255 := by simpa [Lit.wf, IntKind.min, IntKind.max, IntKind.signed, IntKind.bits] using hw
    have e1 : (zs.take n)[i]? = some zs[i] := by rw [List.getElem?_take_of_lt (by omega), List.getElem?_eq_getElem hiz]
    simp only [List.map_map, List.getElem?_map, e1, Option.map_some, Function.comp, Li.v8, Bv.n8_of]
    rw [List.getD_eq_getElem?_getD, List.getElem?_eq_getElem hiz]
    simp only [Option.getD_some, Option.some.injEq, Value.int.injEq, true_and]
    omega
theorem open_parts {W : World} {r : Reach} {base : Nat} {t e q : TypeId} {v : Value} {d : DataW H} {p : List MemPlace} (ht : P.underlying t = some (.slice e)) (he : P.underlying e = some (.slice q)) (hq : P.underlying q = some (.int .u8)) (ce : P.cellsOf e = 1) (cq : P.cellsOf q = 1) (hv : Value.okWide P W r base t v)
    (h : DataW.Trod enc P W 0 (fun _ => true) true t v d p) : ∃ A n c, ∃ l : List (Option Addr × Nat × List (BitVec 8)), v = .slice A n c ∧ n = l.length ∧ Li.Rd W A (l.map fun p => .slice p.1 p.2.2.length p.2.1) ∧ ∀ p ∈ l, Li.Rd W p.1 (p.2.2.map Li.v8) := by
  obtain ⟨A, n, c, rfl⟩ := okWide_slice ht hv
  obtain ⟨fuel, hf⟩ := h
  rcases Go.Deep.open_int_rows ht he hq ce cq hf with ⟨hcs, _⟩ | ⟨a, len, cap, A', L', C', Z, hcs, _, hl, hm, _, hrow⟩
  · simp [Value.cells] at hcs
    obtain ⟨rfl, rfl, rfl⟩ := hcs
    exact ⟨none, 0, 0, [], rfl, rfl, .inl rfl, by simp⟩
  · simp [Value.cells] at hcs
    obtain ⟨rfl, rfl, rfl⟩ := hcs
    have hlen : ∀ i, i < n → (((Z i).take (L' i)).map (BitVec.ofInt 8)).length = L' i := fun i hi => by
      obtain ⟨_, h1, _, h2, _⟩ := hrow i (by omega)
      simp; omega
    refine ⟨some a, n, c, (List.range n).map fun i => (A' i, C' i, ((Z i).take (L' i)).map (BitVec.ofInt 8)), rfl, by simp, ?_, ?_⟩
    · by_cases h0 : n = 0
      · subst h0; exact .inl (by simp)
      · obtain ⟨b, off, spot⟩ := a
        obtain ⟨hc0, _⟩ := hrow 0 (by omega)
        have hspot : spot = none := by simpa [Addr.add] using World.cell?_spot hc0
        subst hspot
        refine .inr ⟨b, off, rfl, fun i hi => ?_⟩
        simp only [List.length_map, List.length_range] at hi
        obtain ⟨hci, _⟩ := hrow i (by omega)
        rw [Addr.add_lit] at hci
        rw [hci]
        simp only [List.map_map, List.getElem?_map, List.getElem?_range hi, Option.map_some, Function.comp]
        rw [hlen i hi]
    · intro q hq
      obtain ⟨i, hi, rfl⟩ := List.mem_map.1 hq
      rw [List.mem_range] at hi
      obtain ⟨_, h1, h2, h3, h4, h5, h6⟩ := hrow i (by omega)
      cases hA : A' i with
      | none =>
        have hc0 := h5 hA
        have hL0 : L' i = 0 := by omega
        simp only [hL0, List.take_zero, List.map_nil]
        exact .inl rfl
      | some x =>
        exact rd_ints (by omega) (fun j hj => (h6 x hA).2 j (by omega)) h4
theorem open_arr {W : World} {r : Reach} {base : Nat} {t e : TypeId} {n : Nat} {k : IntKind} {v : Value} (ht : P.underlying t = some (.array n e)) (he : P.underlying e = some (.int k)) (hct : P.cellTypes P.depth t = some (List.replicate n e)) (hc : P.cellsOf t = n) (hv : Value.okWide P W r base t v) :
    ∃ zs : List Int, v = .agg (zs.map (Value.int k)).toArray ∧ zs.length = n ∧ ∀ z ∈ zs, k.has z := by
  unfold Value.okWide at hv
  rw [ht] at hv
  obtain ⟨cs, rfl, hsz, ts, hts, _, hcell⟩ := hv
  rw [hct] at hts
  cases hts
  have each : ∀ i (hi : i < cs.size), ∃ z, cs[i] = .int k z ∧ k.has z := by
    intro i hi
    obtain ⟨u, hu, hok⟩ := hcell i cs[i] (by simp [hi])
    have hmod : i % (List.replicate n e).length < n := by rw [List.length_replicate]; exact Nat.mod_lt _ (by omega)
    have hue : u = e := by
      rw [List.getElem?_replicate] at hu
      split at hu <;> first | exact (Option.some.inj hu).symm | cases hu
    subst hue
    unfold Cell.okWide Cell.ok at hok
    rw [he] at hok
    generalize cs[i] = v at hok
    cases v <;> simp at hok
    obtain ⟨rfl, h2⟩ := hok
    exact ⟨_, rfl, h2⟩
  refine ⟨cs.toList.map (fun v => match v with | .int _ z => z | _ => 0), ?_, by simp [hsz, hc], ?_⟩
  · congr 1
    apply Array.ext
    · simp
    · intro i h1 h2
      obtain ⟨z, hz, _⟩ := each i h1
      simp [hz]
  · intro z hz
    obtain ⟨v, hv, rfl⟩ := List.mem_map.1 hz
    obtain ⟨i, hi, rfl⟩ := List.getElem_of_mem hv
    obtain ⟨z, hz, hk⟩ := each i (by simpa using hi)
    simp only [Array.getElem_toList, hz]
    exact hk
theorem open_arr8 {W : World} {r : Reach} {base : Nat} {t e : TypeId} {n : Nat} {v : Value} (ht : P.underlying t = some (.array n e)) (he : P.underlying e = some (.int .u8)) (hct : P.cellTypes P.depth t = some (List.replicate n e)) (hc : P.cellsOf t = n) (hv : Value.okWide P W r base t v) :
    ∃ bs : List (BitVec 8), v = .agg (bs.map Li.v8).toArray ∧ bs.length = n := by
  obtain ⟨zs, rfl, hl, hz⟩ := open_arr ht he hct hc hv
  refine ⟨zs.map (BitVec.ofInt 8), ?_, by simpa using hl⟩
  congr 2
  rw [List.map_map]
  refine List.map_congr_left fun z hzm => ?_
  have h := hz z hzm
  simp only [IntKind.has, IntKind.min, IntKind.max, IntKind.signed, IntKind.bits] at h
  simp only [Function.comp, Li.v8, Bv.n8_of]
  congr 1
  simp at h; omega
theorem open_arr32 {W : World} {r : Reach} {base : Nat} {t e : TypeId} {n : Nat} {v : Value} (ht : P.underlying t = some (.array n e)) (he : P.underlying e = some (.int .u32)) (hct : P.cellTypes P.depth t = some (List.replicate n e)) (hc : P.cellsOf t = n) (hv : Value.okWide P W r base t v) :
    ∃ bs : List (BitVec 32), v = .agg (bs.map fun b => Value.int .u32 (Bv.n32 b)).toArray ∧ bs.length = n := by
  obtain ⟨zs, rfl, hl, hz⟩ := open_arr ht he hct hc hv
  refine ⟨zs.map (BitVec.ofInt 32), ?_, by simpa using hl⟩
  congr 2
  rw [List.map_map]
  refine List.map_congr_left fun z hzm => ?_
  have h := hz z hzm
  simp only [IntKind.has, IntKind.min, IntKind.max, IntKind.signed, IntKind.bits] at h
  simp only [Function.comp, Bv.n32_of]
  congr 1
  simp at h; omega
end Lift
end Go.Proofs.Ytgpbmohfgjmpkaa

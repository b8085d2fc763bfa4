/- Opening the calls that layer 45's laws take. No condition. -/
import Derived.Test.YtplhelhijjmlaaaLift3
import Derived.Test.YtplhelhijjmlaaaPathActs
set_option linter.unusedSimpArgs false
set_option linter.unusedVariables false
namespace Go.Proofs.Ytplhelhijjmlaaa
open Go Go.RowKit
namespace Pa
theorem wf_u8 {z : Int} (h : (Lit.int .u8 z).wf = true) : 0 ≤ z ∧ z ≤ 255 := by simpa [Lit.wf, IntKind.min, IntKind.max, IntKind.signed, IntKind.bits] using h
abbrev actK : List (Option IntKind) := [some .i64, some .i64, some .i64, some .i64, some .i64, some .i64, some .u8, some .u8, none, none]
theorem act_of {x : List Value} (h : Lift.fit actK x) : ∃ a : AA, x = ac a ∧ okSt a.st := by
  obtain ⟨_, _, rfl, ⟨a0, rfl, _⟩, _, _, rfl, ⟨a1, rfl, _⟩, _, _, rfl, ⟨a2, rfl, _⟩, _, _, rfl, ⟨a3, rfl, _⟩, _, _, rfl, ⟨a4, rfl, _⟩, _, _, rfl, ⟨a5, rfl, _⟩, _, _, rfl, ⟨a6, rfl, h6⟩, _, _, rfl, ⟨a7, rfl, h7⟩, _, _, rfl, ⟨a8, rfl⟩, _, _, rfl, ⟨a9, rfl⟩, h⟩ := h
  obtain rfl := h
  exact ⟨⟨a0, a1, a2, a3, a4, a5, ⟨a6, a7, a8, a9⟩⟩, rfl, (wf_u8 h6).1, (wf_u8 h6).2, (wf_u8 h7).1, (wf_u8 h7).2⟩
theorem acts_of {l : List (List Value)} (h : ∀ x ∈ l, Lift.fit actK x) : ∃ ls : List AA, l = ls.map ac ∧ ∀ a ∈ ls, okSt a.st := by
  induction l with
  | nil => exact ⟨[], rfl, by simp⟩
  | cons x l ih =>
    obtain ⟨ls, rfl, h2⟩ := ih fun y hy => h y (List.mem_cons_of_mem _ hy)
    obtain ⟨a, rfl, h3⟩ := act_of (h x List.mem_cons_self)
    exact ⟨a :: ls, rfl, fun b hb => by
      rcases List.mem_cons.1 hb with rfl | hb
      · exact h3
      · exact h2 b hb⟩
section
variable {H : Type} {enc : TypeId × Value → H} {W : World} {r : Reach} {base : Nat} {v : Value} {d : DataW H} {p : List MemPlace}
set_option maxRecDepth 100000 in
theorem open_acts (hv : Value.okWide Try.prog W r base 40 v) (h : DataW.Trod enc Try.prog W 0 (fun _ => true) true 40 v d p) :
    ∃ A n c, ∃ l : List AA, v = .slice A n c ∧ n = l.length ∧ Li.Rd W A (l.flatMap ac) ∧ ∀ a ∈ l, okSt a.st := by
  obtain ⟨A, m, c, l, rfl, hm, hr, hf⟩ := Lift.open_flats (ks := actK) 3 Try.underlying40 (by kernel_rfl) (by kernel_rfl) (by decide) hv h
  obtain ⟨ls, rfl, ha⟩ := acts_of hf
  exact ⟨A, m, c, ls, rfl, by simpa using hm, by rwa [List.flatMap_def], ha⟩
set_option maxRecDepth 100000 in
theorem open_act (hv : Value.okWide Try.prog W r base 43 v) (h : DataW.Trod enc Try.prog W 0 (fun _ => true) true 43 v d p) : ∃ a : AA, v = av a ∧ okSt a.st := by
  obtain ⟨cs, rfl, hf⟩ := Lift.open_flatv (ks := actK) 3 (by kernel_rfl) (by kernel_rfl) hv h
  obtain ⟨a, rfl, ha⟩ := act_of hf
  exact ⟨a, rfl, ha⟩
theorem two_of {x : List Value} (h : Lift.fit (actK ++ actK) x) : ∃ a b : AA, x = ac a ++ ac b ∧ okSt a.st ∧ okSt b.st := by
  obtain ⟨_, _, rfl, ⟨a0, rfl, _⟩, _, _, rfl, ⟨a1, rfl, _⟩, _, _, rfl, ⟨a2, rfl, _⟩, _, _, rfl, ⟨a3, rfl, _⟩, _, _, rfl, ⟨a4, rfl, _⟩, _, _, rfl, ⟨a5, rfl, _⟩, _, _, rfl, ⟨a6, rfl, h6⟩, _, _, rfl, ⟨a7, rfl, h7⟩, _, _, rfl, ⟨a8, rfl⟩, _, _, rfl, ⟨a9, rfl⟩, h⟩ := h
  obtain ⟨b, rfl, hb⟩ := act_of (x := _) h
  exact ⟨⟨a0, a1, a2, a3, a4, a5, ⟨a6, a7, a8, a9⟩⟩, b, rfl, ⟨(wf_u8 h6).1, (wf_u8 h6).2, (wf_u8 h7).1, (wf_u8 h7).2⟩, hb⟩
set_option maxRecDepth 100000 in
theorem open_two (hv : Value.okWide Try.prog W r base 66 v) (h : DataW.Trod enc Try.prog W 0 (fun _ => true) true 66 v d p) : ∃ a b : AA, v = .agg (ac a ++ ac b).toArray ∧ okSt a.st ∧ okSt b.st := by
  obtain ⟨cs, rfl, hf⟩ := Lift.open_flatv (ks := actK ++ actK) 4 (by kernel_rfl) (by kernel_rfl) hv h
  obtain ⟨a, b, rfl, ha, hb⟩ := two_of hf
  exact ⟨a, b, rfl, ha, hb⟩
abbrev sc (s : Sta) : List Value := [.int .u8 s.ty, .int .u8 s.code, .bool s.more, .bool s.never]
abbrev stK : List (Option IntKind) := [some .u8, some .u8, none, none]
theorem sta_of {x : List Value} (h : Lift.fit stK x) : ∃ s : Sta, x = sc s ∧ okSt s := by
  obtain ⟨_, _, rfl, ⟨a6, rfl, h6⟩, _, _, rfl, ⟨a7, rfl, h7⟩, _, _, rfl, ⟨a8, rfl⟩, _, _, rfl, ⟨a9, rfl⟩, h⟩ := h
  obtain rfl := h
  exact ⟨⟨a6, a7, a8, a9⟩, rfl, (wf_u8 h6).1, (wf_u8 h6).2, (wf_u8 h7).1, (wf_u8 h7).2⟩
theorem stas_of {l : List (List Value)} (h : ∀ x ∈ l, Lift.fit stK x) : ∃ ls : List Sta, l = ls.map sc ∧ ∀ a ∈ ls, okSt a := by
  induction l with
  | nil => exact ⟨[], rfl, by simp⟩
  | cons x l ih =>
    obtain ⟨ls, rfl, h2⟩ := ih fun y hy => h y (List.mem_cons_of_mem _ hy)
    obtain ⟨a, rfl, h3⟩ := sta_of (h x List.mem_cons_self)
    exact ⟨a :: ls, rfl, fun b hb => by
      rcases List.mem_cons.1 hb with rfl | hb
      · exact h3
      · exact h2 b hb⟩
set_option maxRecDepth 100000 in
theorem open_stas (hv : Value.okWide Try.prog W r base 41 v) (h : DataW.Trod enc Try.prog W 0 (fun _ => true) true 41 v d p) :
    ∃ A n c, ∃ l : List Sta, v = .slice A n c ∧ n = l.length ∧ Li.Rd W A (l.flatMap sc) ∧ ∀ a ∈ l, okSt a := by
  obtain ⟨A, m, c, l, rfl, hm, hr, hf⟩ := Lift.open_flats (ks := stK) 3 Try.underlying41 (by kernel_rfl) (by kernel_rfl) (by decide) hv h
  obtain ⟨ls, rfl, ha⟩ := stas_of hf
  exact ⟨A, m, c, ls, rfl, by simpa using hm, by rwa [List.flatMap_def], ha⟩
end
end Pa
end Go.Proofs.Ytplhelhijjmlaaa

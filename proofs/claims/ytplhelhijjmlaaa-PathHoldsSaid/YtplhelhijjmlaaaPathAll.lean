/- Layer 45: the small functions (slices.Index and Contains of booleans, all, group, bytes). -/
import Derived.Test.YtplhelhijjmlaaaMaps
import Derived.Test.YtplhelhijjmlaaaPathSpec
namespace Go.Proofs.Ytplhelhijjmlaaa
open Go Go.RowKit
namespace Pa
open Se (St At Reads Cell)
variable {w0 w : World} {X : List Nat} {L : List At}
set_option maxRecDepth 100000 in
theorem index_st (hs : St w0 X L w) {A : Option Addr} {n c : Nat} (xs : List Bool) (v : Bool) (hr : Reads L A (xs.map Value.bool)) (hn : n = xs.length) (hle : n ≤ 1000) :
    Calls Try.prog 60 #[.slice A n c, .bool v] w fun e w' => ∃ z : Int, e = .returned (.int .i64 z) ∧ (decide (0 ≤ z) = decide (v ∈ xs)) ∧ St w0 X L w' := by
  have HN := Lib.hid hn
  have HR := Lib.hid hr
  clear hn hr
  go_enter Try.func60, Try.ntmps60
  go_wp2
  go_loopg [5, 8] n (fun gh _ v8 wr => ∃ i : Nat, gh = n - i ∧ v8 = .int .i64 i ∧ i ≤ n ∧ Hid (v ∉ xs.take i) ∧ St w0 X L wr)
  case atStart => exact ⟨0, rfl, rfl, by omega, Lib.hid (by simp), hs⟩
  case round =>
    clear hs
    rename World => w
    obtain ⟨i, rfl, rfl, hi, hx, hs⟩ := hrel
    by_cases hlt : i < n
    · have hil : i < xs.length := by have := HN.out; omega
      have hlti : (i : Int) < (n : Int) := by omega
      obtain ⟨g0, off0, rfl, _, _⟩ := (HR.out w hs.hold).cells (by intro h; have := congrArg List.length h; simp at this; subst this; simp at hil)
      obtain ⟨b, hb⟩ : ∃ b, b = xs[i] := ⟨_, rfl⟩
      have HV := Lib.hid (show (xs.map Value.bool)[i]? = some (.bool b) by rw [List.getElem?_map, List.getElem?_eq_getElem hil, hb]; rfl)
      have HB := Lib.hid hb
      clear hb
      by_cases hvb : v = b
      · subst hvb
        go_wp2_with (first | ((with_reducible refine Se.isL (o := ⟨some 15, _, _, _, _, _⟩) ?_); (refine Se.toL rfl (Se.ld (o := ⟨some 15, _, _, _, _, _⟩) hs rfl rfl (HR.out.cell i HV.out) (by kernel_rfl) ?_))))
        go_ret
        refine ⟨i, rfl, ?_, hs⟩
        have : v ∈ xs := by rw [HB.out]; exact List.getElem_mem hil
        simp [this]
      · have hvb' : (v == b) = false := by simpa using hvb
        go_wp2_with (first | ((with_reducible refine Se.isL (o := ⟨some 15, _, _, _, _, _⟩) ?_); (refine Se.toL rfl (Se.ld (o := ⟨some 15, _, _, _, _, _⟩) hs rfl rfl (HR.out.cell i HV.out) (by kernel_rfl) ?_))))
        go_roundg (n - (i + 1))
        case measure => omega
        case rel =>
          refine ⟨i + 1, rfl, by go_num, by omega, Lib.hid ?_, hs⟩
          rw [List.take_succ_eq_append_getElem hil, ← HB.out]
          simpa using ⟨hx.out, hvb⟩
    · have ek : i = n := by omega
      subst ek
      go_wp2_with fail
      go_ret
      refine ⟨-1, rfl, ?_, hs⟩
      have := hx.out
      rw [List.take_of_length_le (by have := HN.out; omega)] at this
      simp [this]
theorem contains_st (hs : St w0 X L w) {A : Option Addr} {n c : Nat} (xs : List Bool) (v : Bool) (hr : Reads L A (xs.map Value.bool)) (hn : n = xs.length) (hle : n ≤ 1000) :
    Calls Try.prog 55 #[.slice A n c, .bool v] w fun e w' => e = .returned (.bool (decide (v ∈ xs))) ∧ St w0 X L w' := by
  have HN := Lib.hid hn
  have HR := Lib.hid hr
  clear hn hr
  go_enter Try.func55, Try.ntmps55
  go_wp2_with (first | (go_at_call 60; refine Calls.mono (index_st hs xs v HR.out HN.out hle) ?_; clear hs; rintro e w ⟨z, rfl, hz, hs⟩))
  go_ret
  exact ⟨rfl, hs⟩
theorem all_st (hs : St w0 X L w) {A : Option Addr} {n c : Nat} (xs : List Bool) (hr : Reads L A (xs.map Value.bool)) (hn : n = xs.length) (hle : n ≤ 1000) :
    Calls Try.prog 32 #[.slice A n c] w fun e w' => e = .returned (.bool (!decide (false ∈ xs))) ∧ St w0 X L w' := by
  have HN := Lib.hid hn
  have HR := Lib.hid hr
  clear hn hr
  go_enter Try.func32, Try.ntmps32
  go_wp2_with (first | (go_at_call 55; refine Calls.mono (contains_st hs xs false HR.out HN.out hle) ?_; clear hs; rintro e w ⟨rfl, hs⟩))
  go_ret
  exact ⟨rfl, hs⟩
theorem group_st (hs : St w0 X L w) (g : Int) :
    Calls Try.prog 36 #[.int .i64 g] w fun e w' => e = .returned (.bool (grp g)) ∧ St w0 X L w' := by
  by_cases h1 : 1 ≤ g <;> by_cases h2 : g ≤ 128
  all_goals
    go_enter Try.func36, Try.ntmps36
    go_wp2
    go_ret
    exact ⟨by simp [grp, h1, h2], hs⟩
theorem bytes_st (hs : St w0 X L w) (n : Int) :
    Calls Try.prog 35 #[.int .i64 n] w fun e w' => e = .returned (.bool (byt n)) ∧ St w0 X L w' := by
  obtain ⟨b, hb⟩ : ∃ b, b = byt n := ⟨_, rfl⟩
  rw [← hb]
  have HB := Lib.hid hb
  clear hb
  go_enter Try.func35, Try.ntmps35
  go_wp2
  all_goals go_ret
  all_goals refine ⟨?_, hs⟩
  all_goals have := HB.out
  all_goals rw [this]
  all_goals rename_i h0
  · simp only [byt, maxB, h0, decide_true, Bool.true_and]
    exact congrArg (fun b => Ending.returned (.bool b)) (decide_eq_decide.2 Iff.rfl)
  · simp [byt, maxB, Int.not_le.2 h0]
theorem num_st (hs : St w0 X L w) (g : Int) :
    Calls Try.prog 13 #[.int .i64 g] w fun e w' => e = .returned (.int .i64 g) ∧ St w0 X L w' := by
  go_enter Try.func13, Try.ntmps13
  go_wp2
  go_ret
  exact ⟨rfl, hs⟩
theorem rgroup_st (hs : St w0 X L w) (g : Int) :
    Calls Try.prog 57 #[.int .i64 g] w fun e w' => e = .returned (.bool (grp g)) ∧ St w0 X L w' := by
  by_cases h1 : 1 ≤ g <;> by_cases h2 : g ≤ 128
  all_goals
    go_enter Try.func57, Try.ntmps57
    go_wp2
    go_ret
    exact ⟨by simp [grp, h1, h2], hs⟩
end Pa
end Go.Proofs.Ytplhelhijjmlaaa

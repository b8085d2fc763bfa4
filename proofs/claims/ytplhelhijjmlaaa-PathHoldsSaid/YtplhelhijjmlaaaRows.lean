/-
  No cell of these rows narrows 'for every input' (looked for: loops, veiled, ifaces, maps, wideKeys, modest, calm, conditions, laid).
  DERIVED. THE GIVEN ROWS OF THIS SEAT. 6 by the template 'for every input the law returns true; each argument reads behind the call as it read before'; 0 by the template 'total and deterministic' (their statements: YtplhelhijjmlaaaTotals.lean).
  GIVEN WITH THE SEED: the statements are not yours to turn. If you find one false, say at which input.
  Laid BY PROGRAM, IN A SANDBOX (cutbox-rows.mjs): the forced cells as the released guide's own fill.sh prints them over the translation 8ea351f473faa72d… (all of the seat's roots in one cut). By AI agents, Wed Nov 11 2026. No macro, syntax, notation, axiom, sorry.
-/
import Derived.Test.YtplhelhijjmlaaaChecked
import GoSem.Claim
import GoSem.ClaimJoined
import GoSem.ClaimMapViews
import Derived.JoinedTies
import Derived.KernelRfl
namespace Go.Proofs.Ytplhelhijjmlaaa
/- THE CELL 'sum', in the pinned program and in every row, IS THE sha256 OF THE DUMP (.gsa) THAT YtplhelhijjmlaaaProg.lean LOADS. Nothing in Lean hashes anything: it is a label: what it is worth is what the hold of that sum in a sandbox is worth. -/
noncomputable def Try.pinned : Pinned := { name := "ytplhelhijjmlaaa", sum := "8ea351f473faa72d4d02603d3286a45219d8d6aaa3a447ef39c732e60ac92754", checked := Try.checked }
namespace Rows
def none {H : Type} : Left H := { results := [], args := [] }

/-- 'capsulelaw45.PathDecides': WHATEVER THE INPUT: true; the input reads as it did. -/
def pathDecidesSpec : ChangeSpec := { name := "pathDecides", fn := fun _ => fun
  | [d] => { results := [.lit (.bool true)], args := [d] }
  | _ => none }
def pathDecidesRow : OpenClaim := { program := "ytplhelhijjmlaaa", sum := "8ea351f473faa72d4d02603d3286a45219d8d6aaa3a447ef39c732e60ac92754", func := "capsule/capsulelaw45.PathDecides", spec := "pathDecides", unfollowed := true, recurses := true, apart := false }
def PathDecidesSaid : Prop := pathDecidesRow.holds Try.pinned (OpenSpec.ofChange pathDecidesSpec)

/-- ITS FALSE NEIGHBOUR: 'it returns false'. Refute it at one input. -/
def pathDecidesWrong : ChangeSpec := { name := "pathDecides", fn := fun _ => fun
  | [d] => { results := [.lit (.bool false)], args := [d] }
  | _ => none }
def PathDecidesWrongFalsely : Prop := pathDecidesRow.holds Try.pinned (OpenSpec.ofChange pathDecidesWrong)

/-- 'capsulelaw45.PathBounds': WHATEVER THE INPUT: true; the input reads as it did. -/
def pathBoundsSpec : ChangeSpec := { name := "pathBounds", fn := fun _ => fun
  | [d1, d2] => { results := [.lit (.bool true)], args := [d1, d2] }
  | _ => none }
def pathBoundsRow : OpenClaim := { program := "ytplhelhijjmlaaa", sum := "8ea351f473faa72d4d02603d3286a45219d8d6aaa3a447ef39c732e60ac92754", func := "capsule/capsulelaw45.PathBounds", spec := "pathBounds", unfollowed := true, recurses := true, apart := false }
def PathBoundsSaid : Prop := pathBoundsRow.holds Try.pinned (OpenSpec.ofChange pathBoundsSpec)

/-- ITS FALSE NEIGHBOUR: 'it returns false'. Refute it at one input. -/
def pathBoundsWrong : ChangeSpec := { name := "pathBounds", fn := fun _ => fun
  | [d1, d2] => { results := [.lit (.bool false)], args := [d1, d2] }
  | _ => none }
def PathBoundsWrongFalsely : Prop := pathBoundsRow.holds Try.pinned (OpenSpec.ofChange pathBoundsWrong)

/-- 'capsulelaw45.PathHolds': WHATEVER THE INPUT: true; the input reads as it did. -/
def pathHoldsSpec : ChangeSpec := { name := "pathHolds", fn := fun _ => fun
  | [d1, d2, d3, d4, d5] => { results := [.lit (.bool true)], args := [d1, d2, d3, d4, d5] }
  | _ => none }
def pathHoldsRow : OpenClaim := { program := "ytplhelhijjmlaaa", sum := "8ea351f473faa72d4d02603d3286a45219d8d6aaa3a447ef39c732e60ac92754", func := "capsule/capsulelaw45.PathHolds", spec := "pathHolds", unfollowed := true, recurses := true, apart := false }
def PathHoldsSaid : Prop := pathHoldsRow.holds Try.pinned (OpenSpec.ofChange pathHoldsSpec)

/-- ITS FALSE NEIGHBOUR: 'it returns false'. Refute it at one input. -/
def pathHoldsWrong : ChangeSpec := { name := "pathHolds", fn := fun _ => fun
  | [d1, d2, d3, d4, d5] => { results := [.lit (.bool false)], args := [d1, d2, d3, d4, d5] }
  | _ => none }
def PathHoldsWrongFalsely : Prop := pathHoldsRow.holds Try.pinned (OpenSpec.ofChange pathHoldsWrong)

/-- 'capsulelaw45.PathPlays': WHATEVER THE INPUT: true; the input reads as it did. -/
def pathPlaysSpec : ChangeSpec := { name := "pathPlays", fn := fun _ => fun
  | [d1, d2, d3, d4] => { results := [.lit (.bool true)], args := [d1, d2, d3, d4] }
  | _ => none }
def pathPlaysRow : OpenClaim := { program := "ytplhelhijjmlaaa", sum := "8ea351f473faa72d4d02603d3286a45219d8d6aaa3a447ef39c732e60ac92754", func := "capsule/capsulelaw45.PathPlays", spec := "pathPlays", unfollowed := true, recurses := true, apart := false }
def PathPlaysSaid : Prop := pathPlaysRow.holds Try.pinned (OpenSpec.ofChange pathPlaysSpec)

/-- ITS FALSE NEIGHBOUR: 'it returns false'. Refute it at one input. -/
def pathPlaysWrong : ChangeSpec := { name := "pathPlays", fn := fun _ => fun
  | [d1, d2, d3, d4] => { results := [.lit (.bool false)], args := [d1, d2, d3, d4] }
  | _ => none }
def PathPlaysWrongFalsely : Prop := pathPlaysRow.holds Try.pinned (OpenSpec.ofChange pathPlaysWrong)

/-- 'capsulelaw45.PathCopies': WHATEVER THE INPUT: true; the input reads as it did. -/
def pathCopiesSpec : ChangeSpec := { name := "pathCopies", fn := fun _ => fun
  | [d1, d2, d3] => { results := [.lit (.bool true)], args := [d1, d2, d3] }
  | _ => none }
def pathCopiesRow : OpenClaim := { program := "ytplhelhijjmlaaa", sum := "8ea351f473faa72d4d02603d3286a45219d8d6aaa3a447ef39c732e60ac92754", func := "capsule/capsulelaw45.PathCopies", spec := "pathCopies", unfollowed := true, recurses := true, apart := false }
def PathCopiesSaid : Prop := pathCopiesRow.holds Try.pinned (OpenSpec.ofChange pathCopiesSpec)

/-- ITS FALSE NEIGHBOUR: 'it returns false'. Refute it at one input. -/
def pathCopiesWrong : ChangeSpec := { name := "pathCopies", fn := fun _ => fun
  | [d1, d2, d3] => { results := [.lit (.bool false)], args := [d1, d2, d3] }
  | _ => none }
def PathCopiesWrongFalsely : Prop := pathCopiesRow.holds Try.pinned (OpenSpec.ofChange pathCopiesWrong)

/-- 'capsulelaw45.PathNone': WHATEVER THE INPUT: true; the input reads as it did. -/
def pathNoneSpec : ChangeSpec := { name := "pathNone", fn := fun _ => fun
  | [d1, d2] => { results := [.lit (.bool true)], args := [d1, d2] }
  | _ => none }
def pathNoneRow : OpenClaim := { program := "ytplhelhijjmlaaa", sum := "8ea351f473faa72d4d02603d3286a45219d8d6aaa3a447ef39c732e60ac92754", func := "capsule/capsulelaw45.PathNone", spec := "pathNone", unfollowed := true, recurses := true, apart := false }
def PathNoneSaid : Prop := pathNoneRow.holds Try.pinned (OpenSpec.ofChange pathNoneSpec)

/-- ITS FALSE NEIGHBOUR: 'it returns false'. Refute it at one input. -/
def pathNoneWrong : ChangeSpec := { name := "pathNone", fn := fun _ => fun
  | [d1, d2] => { results := [.lit (.bool false)], args := [d1, d2] }
  | _ => none }
def PathNoneWrongFalsely : Prop := pathNoneRow.holds Try.pinned (OpenSpec.ofChange pathNoneWrong)

/- THE SECOND FORM. 'bulk': how many values and letters a reading holds, each counted each time it is reached (what is shared counts as often as it is met; a slice's spare places count too). A statement '..UptoSaid' is the law's where the arguments, and the package variables that the reading takes, are together of bulk at most 1048576: NARROWER than '..Said'. Prove '..Said' where nothing that the law and all that it calls make is longer than what came in: it says more and counts as full. Else prove '..UptoSaid'. A law counts once. -/
mutual
def uptoBulk {H : Type} : DataW H → Nat
  | .lit (.string bytes) => bytes.length + 1
  | .lit _ => 1
  | .nil => 1
  | .ptr d => uptoBulk d + 1
  | .slice elems spare => uptoBulkAll elems + uptoBulkAll spare + 1
  | .agg parts => uptoBulkAll parts + 1
  | .iface _ d => uptoBulk d + 1
  | .map entries => uptoBulkEntries entries + 1
  | .held _ => 1
def uptoBulkAll {H : Type} : List (DataW H) → Nat
  | [] => 0
  | d :: r => uptoBulk d + uptoBulkAll r
def uptoBulkEntries {H : Type} : List (Lit × DataW H) → Nat
  | [] => 0
  | x :: r => uptoBulkEntry x + uptoBulkEntries r
def uptoBulkEntry {H : Type} : Lit × DataW H → Nat
  | (.string bytes, d) => bytes.length + uptoBulk d + 1
  | (_, d) => uptoBulk d + 1
 end
def uptoSmall : (H : Type) → List (DataW H) → Bool := fun _ ds => decide (uptoBulkAll ds ≤ 1048576)
def OpenSpec.upto (s : _root_.Go.ChangeSpec) : _root_.Go.OpenSpec := { _root_.Go.OpenSpec.ofChange s with cond := some uptoSmall }

/-- 'capsulelaw45.PathDecides', WHERE WHAT IT READS IS OF BULK AT MOST 1048576: true; the input reads as it did. -/
def pathDecidesUptoRow : OpenClaim := { program := "ytplhelhijjmlaaa", sum := "8ea351f473faa72d4d02603d3286a45219d8d6aaa3a447ef39c732e60ac92754", func := "capsule/capsulelaw45.PathDecides", spec := "pathDecides", unfollowed := true, recurses := true, apart := false, narrowed := true }
def PathDecidesUptoSaid : Prop := pathDecidesUptoRow.holds Try.pinned (OpenSpec.upto pathDecidesSpec)

/-- 'capsulelaw45.PathBounds', WHERE WHAT IT READS IS OF BULK AT MOST 1048576: true; the input reads as it did. -/
def pathBoundsUptoRow : OpenClaim := { program := "ytplhelhijjmlaaa", sum := "8ea351f473faa72d4d02603d3286a45219d8d6aaa3a447ef39c732e60ac92754", func := "capsule/capsulelaw45.PathBounds", spec := "pathBounds", unfollowed := true, recurses := true, apart := false, narrowed := true }
def PathBoundsUptoSaid : Prop := pathBoundsUptoRow.holds Try.pinned (OpenSpec.upto pathBoundsSpec)

/-- 'capsulelaw45.PathHolds', WHERE WHAT IT READS IS OF BULK AT MOST 1048576: true; the input reads as it did. -/
def pathHoldsUptoRow : OpenClaim := { program := "ytplhelhijjmlaaa", sum := "8ea351f473faa72d4d02603d3286a45219d8d6aaa3a447ef39c732e60ac92754", func := "capsule/capsulelaw45.PathHolds", spec := "pathHolds", unfollowed := true, recurses := true, apart := false, narrowed := true }
def PathHoldsUptoSaid : Prop := pathHoldsUptoRow.holds Try.pinned (OpenSpec.upto pathHoldsSpec)

/-- 'capsulelaw45.PathPlays', WHERE WHAT IT READS IS OF BULK AT MOST 1048576: true; the input reads as it did. -/
def pathPlaysUptoRow : OpenClaim := { program := "ytplhelhijjmlaaa", sum := "8ea351f473faa72d4d02603d3286a45219d8d6aaa3a447ef39c732e60ac92754", func := "capsule/capsulelaw45.PathPlays", spec := "pathPlays", unfollowed := true, recurses := true, apart := false, narrowed := true }
def PathPlaysUptoSaid : Prop := pathPlaysUptoRow.holds Try.pinned (OpenSpec.upto pathPlaysSpec)

/-- 'capsulelaw45.PathCopies', WHERE WHAT IT READS IS OF BULK AT MOST 1048576: true; the input reads as it did. -/
def pathCopiesUptoRow : OpenClaim := { program := "ytplhelhijjmlaaa", sum := "8ea351f473faa72d4d02603d3286a45219d8d6aaa3a447ef39c732e60ac92754", func := "capsule/capsulelaw45.PathCopies", spec := "pathCopies", unfollowed := true, recurses := true, apart := false, narrowed := true }
def PathCopiesUptoSaid : Prop := pathCopiesUptoRow.holds Try.pinned (OpenSpec.upto pathCopiesSpec)

/-- 'capsulelaw45.PathNone', WHERE WHAT IT READS IS OF BULK AT MOST 1048576: true; the input reads as it did. -/
def pathNoneUptoRow : OpenClaim := { program := "ytplhelhijjmlaaa", sum := "8ea351f473faa72d4d02603d3286a45219d8d6aaa3a447ef39c732e60ac92754", func := "capsule/capsulelaw45.PathNone", spec := "pathNone", unfollowed := true, recurses := true, apart := false, narrowed := true }
def PathNoneUptoSaid : Prop := pathNoneUptoRow.holds Try.pinned (OpenSpec.upto pathNoneSpec)

end Rows
end Go.Proofs.Ytplhelhijjmlaaa

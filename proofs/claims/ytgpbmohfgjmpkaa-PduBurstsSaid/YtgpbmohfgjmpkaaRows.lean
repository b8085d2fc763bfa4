/-
  No cell of these rows narrows 'for every input' (looked for: loops, veiled, ifaces, maps, wideKeys, modest, calm, conditions, laid).
  DERIVED. THE GIVEN ROWS OF THIS SEAT. 7 by the template 'for every input the law returns true; each argument reads behind the call as it read before'; 0 by the template 'total and deterministic' (their statements: YtgpbmohfgjmpkaaTotals.lean).
  GIVEN WITH THE SEED: the statements are not yours to turn. If you find one false, say at which input.
  Laid BY PROGRAM, IN A SANDBOX (cutbox-rows.mjs): the forced cells as the released guide's own fill.sh prints them over the translation bd2c911b8daa452c… (all of the seat's roots in one cut). By AI agents, Wed Nov 11 2026. No macro, syntax, notation, axiom, sorry.
-/
import Derived.Test.YtgpbmohfgjmpkaaChecked
import GoSem.Claim
import GoSem.ClaimJoined
import GoSem.ClaimMapViews
import Derived.JoinedTies
import Derived.KernelRfl
namespace Go.Proofs.Ytgpbmohfgjmpkaa
/- THE CELL 'sum', in the pinned program and in every row, IS THE sha256 OF THE DUMP (.gsa) THAT YtgpbmohfgjmpkaaProg.lean LOADS. Nothing in Lean hashes anything: it is a label: what it is worth is what the hold of that sum in a sandbox is worth. -/
noncomputable def Try.pinned : Pinned := { name := "ytgpbmohfgjmpkaa", sum := "bd2c911b8daa452ce5be55f6ce8febdbd9fd9fbd4c7139f1eb47ff535f07b736", checked := Try.checked }
namespace Rows
def none {H : Type} : Left H := { results := [], args := [] }

/-- 'capsulelaw35.PduEncodes': WHATEVER THE INPUT: true; the input reads as it did. -/
def pduEncodesSpec : ChangeSpec := { name := "pduEncodes", fn := fun _ => fun
  | [d1, d2] => { results := [.lit (.bool true)], args := [d1, d2] }
  | _ => none }
def pduEncodesRow : OpenClaim := { program := "ytgpbmohfgjmpkaa", sum := "bd2c911b8daa452ce5be55f6ce8febdbd9fd9fbd4c7139f1eb47ff535f07b736", func := "capsule/capsulelaw35.PduEncodes", spec := "pduEncodes", unfollowed := true, recurses := true, apart := false }
def PduEncodesSaid : Prop := pduEncodesRow.holds Try.pinned (OpenSpec.ofChange pduEncodesSpec)

/-- ITS FALSE NEIGHBOUR: 'it returns false'. Refute it at one input. -/
def pduEncodesWrong : ChangeSpec := { name := "pduEncodes", fn := fun _ => fun
  | [d1, d2] => { results := [.lit (.bool false)], args := [d1, d2] }
  | _ => none }
def PduEncodesWrongFalsely : Prop := pduEncodesRow.holds Try.pinned (OpenSpec.ofChange pduEncodesWrong)

/-- 'capsulelaw35.PduMeasures': WHATEVER THE INPUT: true; the input reads as it did. -/
def pduMeasuresSpec : ChangeSpec := { name := "pduMeasures", fn := fun _ => fun
  | [d1, d2] => { results := [.lit (.bool true)], args := [d1, d2] }
  | _ => none }
def pduMeasuresRow : OpenClaim := { program := "ytgpbmohfgjmpkaa", sum := "bd2c911b8daa452ce5be55f6ce8febdbd9fd9fbd4c7139f1eb47ff535f07b736", func := "capsule/capsulelaw35.PduMeasures", spec := "pduMeasures", unfollowed := true, recurses := true, apart := false }
def PduMeasuresSaid : Prop := pduMeasuresRow.holds Try.pinned (OpenSpec.ofChange pduMeasuresSpec)

/-- ITS FALSE NEIGHBOUR: 'it returns false'. Refute it at one input. -/
def pduMeasuresWrong : ChangeSpec := { name := "pduMeasures", fn := fun _ => fun
  | [d1, d2] => { results := [.lit (.bool false)], args := [d1, d2] }
  | _ => none }
def PduMeasuresWrongFalsely : Prop := pduMeasuresRow.holds Try.pinned (OpenSpec.ofChange pduMeasuresWrong)

/-- 'capsulelaw35.PduApart': WHATEVER THE INPUT: true; the input reads as it did. -/
def pduApartSpec : ChangeSpec := { name := "pduApart", fn := fun _ => fun
  | [d1, d2, d3] => { results := [.lit (.bool true)], args := [d1, d2, d3] }
  | _ => none }
def pduApartRow : OpenClaim := { program := "ytgpbmohfgjmpkaa", sum := "bd2c911b8daa452ce5be55f6ce8febdbd9fd9fbd4c7139f1eb47ff535f07b736", func := "capsule/capsulelaw35.PduApart", spec := "pduApart", unfollowed := true, recurses := true, apart := false }
def PduApartSaid : Prop := pduApartRow.holds Try.pinned (OpenSpec.ofChange pduApartSpec)

/-- ITS FALSE NEIGHBOUR: 'it returns false'. Refute it at one input. -/
def pduApartWrong : ChangeSpec := { name := "pduApart", fn := fun _ => fun
  | [d1, d2, d3] => { results := [.lit (.bool false)], args := [d1, d2, d3] }
  | _ => none }
def PduApartWrongFalsely : Prop := pduApartRow.holds Try.pinned (OpenSpec.ofChange pduApartWrong)

/-- 'capsulelaw35.PduDecodes': WHATEVER THE INPUT: true; the input reads as it did. -/
def pduDecodesSpec : ChangeSpec := { name := "pduDecodes", fn := fun _ => fun
  | [d1, d2] => { results := [.lit (.bool true)], args := [d1, d2] }
  | _ => none }
def pduDecodesRow : OpenClaim := { program := "ytgpbmohfgjmpkaa", sum := "bd2c911b8daa452ce5be55f6ce8febdbd9fd9fbd4c7139f1eb47ff535f07b736", func := "capsule/capsulelaw35.PduDecodes", spec := "pduDecodes", unfollowed := true, recurses := true, apart := false }
def PduDecodesSaid : Prop := pduDecodesRow.holds Try.pinned (OpenSpec.ofChange pduDecodesSpec)

/-- ITS FALSE NEIGHBOUR: 'it returns false'. Refute it at one input. -/
def pduDecodesWrong : ChangeSpec := { name := "pduDecodes", fn := fun _ => fun
  | [d1, d2] => { results := [.lit (.bool false)], args := [d1, d2] }
  | _ => none }
def PduDecodesWrongFalsely : Prop := pduDecodesRow.holds Try.pinned (OpenSpec.ofChange pduDecodesWrong)

/-- 'capsulelaw35.PduBack': WHATEVER THE INPUT: true; the input reads as it did. -/
def pduBackSpec : ChangeSpec := { name := "pduBack", fn := fun _ => fun
  | [d1, d2, d3] => { results := [.lit (.bool true)], args := [d1, d2, d3] }
  | _ => none }
def pduBackRow : OpenClaim := { program := "ytgpbmohfgjmpkaa", sum := "bd2c911b8daa452ce5be55f6ce8febdbd9fd9fbd4c7139f1eb47ff535f07b736", func := "capsule/capsulelaw35.PduBack", spec := "pduBack", unfollowed := true, recurses := true, apart := false }
def PduBackSaid : Prop := pduBackRow.holds Try.pinned (OpenSpec.ofChange pduBackSpec)

/-- ITS FALSE NEIGHBOUR: 'it returns false'. Refute it at one input. -/
def pduBackWrong : ChangeSpec := { name := "pduBack", fn := fun _ => fun
  | [d1, d2, d3] => { results := [.lit (.bool false)], args := [d1, d2, d3] }
  | _ => none }
def PduBackWrongFalsely : Prop := pduBackRow.holds Try.pinned (OpenSpec.ofChange pduBackWrong)

/-- 'capsulelaw35.PduBursts': WHATEVER THE INPUT: true; the input reads as it did. -/
def pduBurstsSpec : ChangeSpec := { name := "pduBursts", fn := fun _ => fun
  | [d1, d2, d3, d4] => { results := [.lit (.bool true)], args := [d1, d2, d3, d4] }
  | _ => none }
def pduBurstsRow : OpenClaim := { program := "ytgpbmohfgjmpkaa", sum := "bd2c911b8daa452ce5be55f6ce8febdbd9fd9fbd4c7139f1eb47ff535f07b736", func := "capsule/capsulelaw35.PduBursts", spec := "pduBursts", unfollowed := true, recurses := true, apart := false }
def PduBurstsSaid : Prop := pduBurstsRow.holds Try.pinned (OpenSpec.ofChange pduBurstsSpec)

/-- ITS FALSE NEIGHBOUR: 'it returns false'. Refute it at one input. -/
def pduBurstsWrong : ChangeSpec := { name := "pduBursts", fn := fun _ => fun
  | [d1, d2, d3, d4] => { results := [.lit (.bool false)], args := [d1, d2, d3, d4] }
  | _ => none }
def PduBurstsWrongFalsely : Prop := pduBurstsRow.holds Try.pinned (OpenSpec.ofChange pduBurstsWrong)

/-- 'capsulelaw35.PduOwn': WHATEVER THE INPUT: true; the input reads as it did. -/
def pduOwnSpec : ChangeSpec := { name := "pduOwn", fn := fun _ => fun
  | [d1, d2] => { results := [.lit (.bool true)], args := [d1, d2] }
  | _ => none }
def pduOwnRow : OpenClaim := { program := "ytgpbmohfgjmpkaa", sum := "bd2c911b8daa452ce5be55f6ce8febdbd9fd9fbd4c7139f1eb47ff535f07b736", func := "capsule/capsulelaw35.PduOwn", spec := "pduOwn", unfollowed := true, recurses := true, apart := false }
def PduOwnSaid : Prop := pduOwnRow.holds Try.pinned (OpenSpec.ofChange pduOwnSpec)

/-- ITS FALSE NEIGHBOUR: 'it returns false'. Refute it at one input. -/
def pduOwnWrong : ChangeSpec := { name := "pduOwn", fn := fun _ => fun
  | [d1, d2] => { results := [.lit (.bool false)], args := [d1, d2] }
  | _ => none }
def PduOwnWrongFalsely : Prop := pduOwnRow.holds Try.pinned (OpenSpec.ofChange pduOwnWrong)

/- THE SECOND FORM. 'bulk': how many values and letters a reading holds, each counted each time it is reached (what is shared counts as often as it is met; a slice's spare places count too). A statement '..UptoSaid' is the law's where the arguments, and the package variables that the reading takes, are together of bulk at most 1048576: NARROWER than '..Said'. Prove '..Said' where nothing that the law and all that it calls make is longer than what came in: it says more and counts as full. Else prove '..UptoSaid'. A law counts once. -/
mutual
def uptoBulk {H : Type} : DataW H → Nat
  | .lit (.string bytes) => bytes.length + 1
  | .lit _ => 1
  | .nil => 1
  | .ptr d => uptoBulk d + 1
  | .slice elems spare => uptoBulkAll elems + uptoBulkAll spare + 1
  | .agg parts => uptoBulkAll parts + 1
  | .iface _ d => uptoBulk d + 1
  | .map entries => uptoBulkEntries entries + 1
  | .held _ => 1
def uptoBulkAll {H : Type} : List (DataW H) → Nat
  | [] => 0
  | d :: r => uptoBulk d + uptoBulkAll r
def uptoBulkEntries {H : Type} : List (Lit × DataW H) → Nat
  | [] => 0
  | x :: r => uptoBulkEntry x + uptoBulkEntries r
def uptoBulkEntry {H : Type} : Lit × DataW H → Nat
  | (.string bytes, d) => bytes.length + uptoBulk d + 1
  | (_, d) => uptoBulk d + 1
 end
def uptoSmall : (H : Type) → List (DataW H) → Bool := fun _ ds => decide (uptoBulkAll ds ≤ 1048576)
def OpenSpec.upto (s : _root_.Go.ChangeSpec) : _root_.Go.OpenSpec := { _root_.Go.OpenSpec.ofChange s with cond := some uptoSmall }

/-- 'capsulelaw35.PduEncodes', WHERE WHAT IT READS IS OF BULK AT MOST 1048576: true; the input reads as it did. -/
def pduEncodesUptoRow : OpenClaim := { program := "ytgpbmohfgjmpkaa", sum := "bd2c911b8daa452ce5be55f6ce8febdbd9fd9fbd4c7139f1eb47ff535f07b736", func := "capsule/capsulelaw35.PduEncodes", spec := "pduEncodes", unfollowed := true, recurses := true, apart := false, narrowed := true }
def PduEncodesUptoSaid : Prop := pduEncodesUptoRow.holds Try.pinned (OpenSpec.upto pduEncodesSpec)

/-- 'capsulelaw35.PduMeasures', WHERE WHAT IT READS IS OF BULK AT MOST 1048576: true; the input reads as it did. -/
def pduMeasuresUptoRow : OpenClaim := { program := "ytgpbmohfgjmpkaa", sum := "bd2c911b8daa452ce5be55f6ce8febdbd9fd9fbd4c7139f1eb47ff535f07b736", func := "capsule/capsulelaw35.PduMeasures", spec := "pduMeasures", unfollowed := true, recurses := true, apart := false, narrowed := true }
def PduMeasuresUptoSaid : Prop := pduMeasuresUptoRow.holds Try.pinned (OpenSpec.upto pduMeasuresSpec)

/-- 'capsulelaw35.PduApart', WHERE WHAT IT READS IS OF BULK AT MOST 1048576: true; the input reads as it did. -/
def pduApartUptoRow : OpenClaim := { program := "ytgpbmohfgjmpkaa", sum := "bd2c911b8daa452ce5be55f6ce8febdbd9fd9fbd4c7139f1eb47ff535f07b736", func := "capsule/capsulelaw35.PduApart", spec := "pduApart", unfollowed := true, recurses := true, apart := false, narrowed := true }
def PduApartUptoSaid : Prop := pduApartUptoRow.holds Try.pinned (OpenSpec.upto pduApartSpec)

/-- 'capsulelaw35.PduDecodes', WHERE WHAT IT READS IS OF BULK AT MOST 1048576: true; the input reads as it did. -/
def pduDecodesUptoRow : OpenClaim := { program := "ytgpbmohfgjmpkaa", sum := "bd2c911b8daa452ce5be55f6ce8febdbd9fd9fbd4c7139f1eb47ff535f07b736", func := "capsule/capsulelaw35.PduDecodes", spec := "pduDecodes", unfollowed := true, recurses := true, apart := false, narrowed := true }
def PduDecodesUptoSaid : Prop := pduDecodesUptoRow.holds Try.pinned (OpenSpec.upto pduDecodesSpec)

/-- 'capsulelaw35.PduBack', WHERE WHAT IT READS IS OF BULK AT MOST 1048576: true; the input reads as it did. -/
def pduBackUptoRow : OpenClaim := { program := "ytgpbmohfgjmpkaa", sum := "bd2c911b8daa452ce5be55f6ce8febdbd9fd9fbd4c7139f1eb47ff535f07b736", func := "capsule/capsulelaw35.PduBack", spec := "pduBack", unfollowed := true, recurses := true, apart := false, narrowed := true }
def PduBackUptoSaid : Prop := pduBackUptoRow.holds Try.pinned (OpenSpec.upto pduBackSpec)

/-- 'capsulelaw35.PduBursts', WHERE WHAT IT READS IS OF BULK AT MOST 1048576: true; the input reads as it did. -/
def pduBurstsUptoRow : OpenClaim := { program := "ytgpbmohfgjmpkaa", sum := "bd2c911b8daa452ce5be55f6ce8febdbd9fd9fbd4c7139f1eb47ff535f07b736", func := "capsule/capsulelaw35.PduBursts", spec := "pduBursts", unfollowed := true, recurses := true, apart := false, narrowed := true }
def PduBurstsUptoSaid : Prop := pduBurstsUptoRow.holds Try.pinned (OpenSpec.upto pduBurstsSpec)

/-- 'capsulelaw35.PduOwn', WHERE WHAT IT READS IS OF BULK AT MOST 1048576: true; the input reads as it did. -/
def pduOwnUptoRow : OpenClaim := { program := "ytgpbmohfgjmpkaa", sum := "bd2c911b8daa452ce5be55f6ce8febdbd9fd9fbd4c7139f1eb47ff535f07b736", func := "capsule/capsulelaw35.PduOwn", spec := "pduOwn", unfollowed := true, recurses := true, apart := false, narrowed := true }
def PduOwnUptoSaid : Prop := pduOwnUptoRow.holds Try.pinned (OpenSpec.upto pduOwnSpec)

end Rows
end Go.Proofs.Ytgpbmohfgjmpkaa

/-
  No cell of these rows narrows 'for every input' (looked for: loops, veiled, ifaces, maps, wideKeys, modest, calm, conditions, laid).
  DERIVED. THE GIVEN ROWS OF THIS SEAT. 7 by the template 'for every input the law returns true; each argument reads behind the call as it read before'; 0 by the template 'total and deterministic' (their statements: YtehfogkjhlfeoaaTotals.lean).
  GIVEN WITH THE SEED: the statements are not yours to turn. If you find one false, say at which input.
  Laid BY PROGRAM, IN A SANDBOX (cutbox-rows.mjs): the forced cells as the released guide's own fill.sh prints them over the translation 40d56f9c66400f7f… (all of the seat's roots in one cut). By AI agents, Wed Nov 11 2026. No macro, syntax, notation, axiom, sorry.
-/
import Derived.Test.YtehfogkjhlfeoaaChecked
import GoSem.Claim
import GoSem.ClaimJoined
import GoSem.ClaimMapViews
import Derived.JoinedTies
import Derived.KernelRfl
namespace Go.Proofs.Ytehfogkjhlfeoaa
/- THE CELL 'sum', in the pinned program and in every row, IS THE sha256 OF THE DUMP (.gsa) THAT YtehfogkjhlfeoaaProg.lean LOADS. Nothing in Lean hashes anything: it is a label: what it is worth is what the hold of that sum in a sandbox is worth. -/
noncomputable def Try.pinned : Pinned := { name := "ytehfogkjhlfeoaa", sum := "40d56f9c66400f7fd8282485f6b4a4e656f07b8a7ae83228fa45e121ce4f5a9c", checked := Try.checked }
namespace Rows
def none {H : Type} : Left H := { results := [], args := [] }

/-- 'capsulelaw37.ShaSums': WHATEVER THE INPUT: true; the input reads as it did. -/
def shaSumsSpec : ChangeSpec := { name := "shaSums", fn := fun _ => fun
  | [d] => { results := [.lit (.bool true)], args := [d] }
  | _ => none }
def shaSumsRow : OpenClaim := { program := "ytehfogkjhlfeoaa", sum := "40d56f9c66400f7fd8282485f6b4a4e656f07b8a7ae83228fa45e121ce4f5a9c", func := "capsule/capsulelaw37.ShaSums", spec := "shaSums", inPlace := ["math/bits.Add64"], unfollowed := true, recurses := true, apart := false }
def ShaSumsSaid : Prop := shaSumsRow.holds Try.pinned (OpenSpec.ofChange shaSumsSpec)

/-- ITS FALSE NEIGHBOUR: 'it returns false'. Refute it at one input. -/
def shaSumsWrong : ChangeSpec := { name := "shaSums", fn := fun _ => fun
  | [d] => { results := [.lit (.bool false)], args := [d] }
  | _ => none }
def ShaSumsWrongFalsely : Prop := shaSumsRow.holds Try.pinned (OpenSpec.ofChange shaSumsWrong)

/-- 'capsulelaw37.ShaCodes': WHATEVER THE INPUT: true; the input reads as it did. -/
def shaCodesSpec : ChangeSpec := { name := "shaCodes", fn := fun _ => fun
  | [d1, d2] => { results := [.lit (.bool true)], args := [d1, d2] }
  | _ => none }
def shaCodesRow : OpenClaim := { program := "ytehfogkjhlfeoaa", sum := "40d56f9c66400f7fd8282485f6b4a4e656f07b8a7ae83228fa45e121ce4f5a9c", func := "capsule/capsulelaw37.ShaCodes", spec := "shaCodes", inPlace := ["math/bits.Add64"], unfollowed := true, recurses := true, apart := false }
def ShaCodesSaid : Prop := shaCodesRow.holds Try.pinned (OpenSpec.ofChange shaCodesSpec)

/-- ITS FALSE NEIGHBOUR: 'it returns false'. Refute it at one input. -/
def shaCodesWrong : ChangeSpec := { name := "shaCodes", fn := fun _ => fun
  | [d1, d2] => { results := [.lit (.bool false)], args := [d1, d2] }
  | _ => none }
def ShaCodesWrongFalsely : Prop := shaCodesRow.holds Try.pinned (OpenSpec.ofChange shaCodesWrong)

/-- 'capsulelaw37.ShaKeys': WHATEVER THE INPUT: true; the input reads as it did. -/
def shaKeysSpec : ChangeSpec := { name := "shaKeys", fn := fun _ => fun
  | [d1, d2] => { results := [.lit (.bool true)], args := [d1, d2] }
  | _ => none }
def shaKeysRow : OpenClaim := { program := "ytehfogkjhlfeoaa", sum := "40d56f9c66400f7fd8282485f6b4a4e656f07b8a7ae83228fa45e121ce4f5a9c", func := "capsule/capsulelaw37.ShaKeys", spec := "shaKeys", inPlace := ["math/bits.Add64"], unfollowed := true, recurses := true, apart := false }
def ShaKeysSaid : Prop := shaKeysRow.holds Try.pinned (OpenSpec.ofChange shaKeysSpec)

/-- ITS FALSE NEIGHBOUR: 'it returns false'. Refute it at one input. -/
def shaKeysWrong : ChangeSpec := { name := "shaKeys", fn := fun _ => fun
  | [d1, d2] => { results := [.lit (.bool false)], args := [d1, d2] }
  | _ => none }
def ShaKeysWrongFalsely : Prop := shaKeysRow.holds Try.pinned (OpenSpec.ofChange shaKeysWrong)

/-- 'capsulelaw37.ShaSteps': WHATEVER THE INPUT: true; the input reads as it did. -/
def shaStepsSpec : ChangeSpec := { name := "shaSteps", fn := fun _ => fun
  | [d1, d2] => { results := [.lit (.bool true)], args := [d1, d2] }
  | _ => none }
def shaStepsRow : OpenClaim := { program := "ytehfogkjhlfeoaa", sum := "40d56f9c66400f7fd8282485f6b4a4e656f07b8a7ae83228fa45e121ce4f5a9c", func := "capsule/capsulelaw37.ShaSteps", spec := "shaSteps", inPlace := ["math/bits.Add64"], unfollowed := true, recurses := true, apart := false }
def ShaStepsSaid : Prop := shaStepsRow.holds Try.pinned (OpenSpec.ofChange shaStepsSpec)

/-- ITS FALSE NEIGHBOUR: 'it returns false'. Refute it at one input. -/
def shaStepsWrong : ChangeSpec := { name := "shaSteps", fn := fun _ => fun
  | [d1, d2] => { results := [.lit (.bool false)], args := [d1, d2] }
  | _ => none }
def ShaStepsWrongFalsely : Prop := shaStepsRow.holds Try.pinned (OpenSpec.ofChange shaStepsWrong)

/-- 'capsulelaw37.ShaParts': WHATEVER THE INPUT: true; the input reads as it did. -/
def shaPartsSpec : ChangeSpec := { name := "shaParts", fn := fun _ => fun
  | [d] => { results := [.lit (.bool true)], args := [d] }
  | _ => none }
def shaPartsRow : OpenClaim := { program := "ytehfogkjhlfeoaa", sum := "40d56f9c66400f7fd8282485f6b4a4e656f07b8a7ae83228fa45e121ce4f5a9c", func := "capsule/capsulelaw37.ShaParts", spec := "shaParts", inPlace := ["math/bits.Add64"], unfollowed := true, recurses := true, apart := false }
def ShaPartsSaid : Prop := shaPartsRow.holds Try.pinned (OpenSpec.ofChange shaPartsSpec)

/-- ITS FALSE NEIGHBOUR: 'it returns false'. Refute it at one input. -/
def shaPartsWrong : ChangeSpec := { name := "shaParts", fn := fun _ => fun
  | [d] => { results := [.lit (.bool false)], args := [d] }
  | _ => none }
def ShaPartsWrongFalsely : Prop := shaPartsRow.holds Try.pinned (OpenSpec.ofChange shaPartsWrong)

/-- 'capsulelaw37.ShaCopies': WHATEVER THE INPUT: true; the input reads as it did. -/
def shaCopiesSpec : ChangeSpec := { name := "shaCopies", fn := fun _ => fun
  | [d1, d2, d3] => { results := [.lit (.bool true)], args := [d1, d2, d3] }
  | _ => none }
def shaCopiesRow : OpenClaim := { program := "ytehfogkjhlfeoaa", sum := "40d56f9c66400f7fd8282485f6b4a4e656f07b8a7ae83228fa45e121ce4f5a9c", func := "capsule/capsulelaw37.ShaCopies", spec := "shaCopies", inPlace := ["math/bits.Add64"], unfollowed := true, recurses := true, apart := false }
def ShaCopiesSaid : Prop := shaCopiesRow.holds Try.pinned (OpenSpec.ofChange shaCopiesSpec)

/-- ITS FALSE NEIGHBOUR: 'it returns false'. Refute it at one input. -/
def shaCopiesWrong : ChangeSpec := { name := "shaCopies", fn := fun _ => fun
  | [d1, d2, d3] => { results := [.lit (.bool false)], args := [d1, d2, d3] }
  | _ => none }
def ShaCopiesWrongFalsely : Prop := shaCopiesRow.holds Try.pinned (OpenSpec.ofChange shaCopiesWrong)

/-- 'capsulelaw37.ShaNil': WHATEVER THE INPUT: true; the input reads as it did. -/
def shaNilSpec : ChangeSpec := { name := "shaNil", fn := fun _ => fun
  | [d] => { results := [.lit (.bool true)], args := [d] }
  | _ => none }
def shaNilRow : OpenClaim := { program := "ytehfogkjhlfeoaa", sum := "40d56f9c66400f7fd8282485f6b4a4e656f07b8a7ae83228fa45e121ce4f5a9c", func := "capsule/capsulelaw37.ShaNil", spec := "shaNil", inPlace := ["math/bits.Add64"], unfollowed := true, recurses := true, apart := false }
def ShaNilSaid : Prop := shaNilRow.holds Try.pinned (OpenSpec.ofChange shaNilSpec)

/-- ITS FALSE NEIGHBOUR: 'it returns false'. Refute it at one input. -/
def shaNilWrong : ChangeSpec := { name := "shaNil", fn := fun _ => fun
  | [d] => { results := [.lit (.bool false)], args := [d] }
  | _ => none }
def ShaNilWrongFalsely : Prop := shaNilRow.holds Try.pinned (OpenSpec.ofChange shaNilWrong)

/- THE SECOND FORM. 'bulk': how many values and letters a reading holds, each counted each time it is reached (what is shared counts as often as it is met; a slice's spare places count too). A statement '..UptoSaid' is the law's where the arguments, and the package variables that the reading takes, are together of bulk at most 1048576: NARROWER than '..Said'. Prove '..Said' where nothing that the law and all that it calls make is longer than what came in: it says more and counts as full. Else prove '..UptoSaid'. A law counts once. -/
mutual
def uptoBulk {H : Type} : DataW H → Nat
  | .lit (.string bytes) => bytes.length + 1
  | .lit _ => 1
  | .nil => 1
  | .ptr d => uptoBulk d + 1
  | .slice elems spare => uptoBulkAll elems + uptoBulkAll spare + 1
  | .agg parts => uptoBulkAll parts + 1
  | .iface _ d => uptoBulk d + 1
  | .map entries => uptoBulkEntries entries + 1
  | .held _ => 1
def uptoBulkAll {H : Type} : List (DataW H) → Nat
  | [] => 0
  | d :: r => uptoBulk d + uptoBulkAll r
def uptoBulkEntries {H : Type} : List (Lit × DataW H) → Nat
  | [] => 0
  | x :: r => uptoBulkEntry x + uptoBulkEntries r
def uptoBulkEntry {H : Type} : Lit × DataW H → Nat
  | (.string bytes, d) => bytes.length + uptoBulk d + 1
  | (_, d) => uptoBulk d + 1
 end
def uptoSmall : (H : Type) → List (DataW H) → Bool := fun _ ds => decide (uptoBulkAll ds ≤ 1048576)
def OpenSpec.upto (s : _root_.Go.ChangeSpec) : _root_.Go.OpenSpec := { _root_.Go.OpenSpec.ofChange s with cond := some uptoSmall }

/-- 'capsulelaw37.ShaSums', WHERE WHAT IT READS IS OF BULK AT MOST 1048576: true; the input reads as it did. -/
def shaSumsUptoRow : OpenClaim := { program := "ytehfogkjhlfeoaa", sum := "40d56f9c66400f7fd8282485f6b4a4e656f07b8a7ae83228fa45e121ce4f5a9c", func := "capsule/capsulelaw37.ShaSums", spec := "shaSums", inPlace := ["math/bits.Add64"], unfollowed := true, recurses := true, apart := false, narrowed := true }
def ShaSumsUptoSaid : Prop := shaSumsUptoRow.holds Try.pinned (OpenSpec.upto shaSumsSpec)

/-- 'capsulelaw37.ShaCodes', WHERE WHAT IT READS IS OF BULK AT MOST 1048576: true; the input reads as it did. -/
def shaCodesUptoRow : OpenClaim := { program := "ytehfogkjhlfeoaa", sum := "40d56f9c66400f7fd8282485f6b4a4e656f07b8a7ae83228fa45e121ce4f5a9c", func := "capsule/capsulelaw37.ShaCodes", spec := "shaCodes", inPlace := ["math/bits.Add64"], unfollowed := true, recurses := true, apart := false, narrowed := true }
def ShaCodesUptoSaid : Prop := shaCodesUptoRow.holds Try.pinned (OpenSpec.upto shaCodesSpec)

/-- 'capsulelaw37.ShaKeys', WHERE WHAT IT READS IS OF BULK AT MOST 1048576: true; the input reads as it did. -/
def shaKeysUptoRow : OpenClaim := { program := "ytehfogkjhlfeoaa", sum := "40d56f9c66400f7fd8282485f6b4a4e656f07b8a7ae83228fa45e121ce4f5a9c", func := "capsule/capsulelaw37.ShaKeys", spec := "shaKeys", inPlace := ["math/bits.Add64"], unfollowed := true, recurses := true, apart := false, narrowed := true }
def ShaKeysUptoSaid : Prop := shaKeysUptoRow.holds Try.pinned (OpenSpec.upto shaKeysSpec)

/-- 'capsulelaw37.ShaSteps', WHERE WHAT IT READS IS OF BULK AT MOST 1048576: true; the input reads as it did. -/
def shaStepsUptoRow : OpenClaim := { program := "ytehfogkjhlfeoaa", sum := "40d56f9c66400f7fd8282485f6b4a4e656f07b8a7ae83228fa45e121ce4f5a9c", func := "capsule/capsulelaw37.ShaSteps", spec := "shaSteps", inPlace := ["math/bits.Add64"], unfollowed := true, recurses := true, apart := false, narrowed := true }
def ShaStepsUptoSaid : Prop := shaStepsUptoRow.holds Try.pinned (OpenSpec.upto shaStepsSpec)

/-- 'capsulelaw37.ShaParts', WHERE WHAT IT READS IS OF BULK AT MOST 1048576: true; the input reads as it did. -/
def shaPartsUptoRow : OpenClaim := { program := "ytehfogkjhlfeoaa", sum := "40d56f9c66400f7fd8282485f6b4a4e656f07b8a7ae83228fa45e121ce4f5a9c", func := "capsule/capsulelaw37.ShaParts", spec := "shaParts", inPlace := ["math/bits.Add64"], unfollowed := true, recurses := true, apart := false, narrowed := true }
def ShaPartsUptoSaid : Prop := shaPartsUptoRow.holds Try.pinned (OpenSpec.upto shaPartsSpec)

/-- 'capsulelaw37.ShaCopies', WHERE WHAT IT READS IS OF BULK AT MOST 1048576: true; the input reads as it did. -/
def shaCopiesUptoRow : OpenClaim := { program := "ytehfogkjhlfeoaa", sum := "40d56f9c66400f7fd8282485f6b4a4e656f07b8a7ae83228fa45e121ce4f5a9c", func := "capsule/capsulelaw37.ShaCopies", spec := "shaCopies", inPlace := ["math/bits.Add64"], unfollowed := true, recurses := true, apart := false, narrowed := true }
def ShaCopiesUptoSaid : Prop := shaCopiesUptoRow.holds Try.pinned (OpenSpec.upto shaCopiesSpec)

/-- 'capsulelaw37.ShaNil', WHERE WHAT IT READS IS OF BULK AT MOST 1048576: true; the input reads as it did. -/
def shaNilUptoRow : OpenClaim := { program := "ytehfogkjhlfeoaa", sum := "40d56f9c66400f7fd8282485f6b4a4e656f07b8a7ae83228fa45e121ce4f5a9c", func := "capsule/capsulelaw37.ShaNil", spec := "shaNil", inPlace := ["math/bits.Add64"], unfollowed := true, recurses := true, apart := false, narrowed := true }
def ShaNilUptoSaid : Prop := shaNilUptoRow.holds Try.pinned (OpenSpec.upto shaNilSpec)

end Rows
end Go.Proofs.Ytehfogkjhlfeoaa

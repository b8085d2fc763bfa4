/-
  No cell of these rows narrows 'for every input' (looked for: loops, veiled, ifaces, maps, wideKeys, modest, calm, conditions, laid).
  DERIVED. THE GIVEN ROWS OF THIS SEAT. 3 by the template 'for every input the law returns true; each argument reads behind the call as it read before'; 0 by the template 'total and deterministic' (their statements: YtakdoijemopejaaGreatTotals.lean).
  GIVEN WITH THE SEED: the statements are not yours to turn. If you find one false, say at which input.
  Laid BY PROGRAM, IN A SANDBOX (cutbox-rows.mjs): the forced cells as the released guide's own fill.sh prints them over the translation 29b139013fd8a403… (all of the seat's roots in one cut). By AI agents, Wed Nov 11 2026. No macro, syntax, notation, axiom, sorry.
-/
import Derived.Test.YtakdoijemopejaaGreatChecked
import GoSem.Claim
import GoSem.ClaimJoined
import GoSem.ClaimMapViews
import Derived.JoinedTies
import Derived.KernelRfl
namespace Go.Proofs.YtakdoijemopejaaGreat
/- THE CELL 'sum', in the pinned program and in every row, IS THE sha256 OF THE DUMP (.gsa) THAT YtakdoijemopejaaGreatProg.lean LOADS. Nothing in Lean hashes anything: it is a label: what it is worth is what the hold of that sum in a sandbox is worth. -/
noncomputable def Tryz.pinned : Pinned := { name := "ytakdoijemopejaagreat", sum := "29b139013fd8a403a2f532de166fb27f5880d125e0c2161f1a62ca96616cabbe", checked := Tryz.checked }
namespace Rows
def none {H : Type} : Left H := { results := [], args := [] }

/-- 'capsulelaw38.AuthVerifies': WHATEVER THE INPUT: true; the input reads as it did. -/
def authVerifiesSpec : ChangeSpec := { name := "authVerifies", fn := fun _ => fun
  | [d1, d2] => { results := [.lit (.bool true)], args := [d1, d2] }
  | _ => none }
def authVerifiesRow : OpenClaim := { program := "ytakdoijemopejaagreat", sum := "29b139013fd8a403a2f532de166fb27f5880d125e0c2161f1a62ca96616cabbe", func := "capsule/capsulelaw38.AuthVerifies", spec := "authVerifies", inPlace := ["internal/abi.NoEscape", "internal/bytealg.MakeNoZero", "math/bits.Add64"], unfollowed := true, recurses := true, apart := false }
def AuthVerifiesSaid : Prop := authVerifiesRow.holds Tryz.pinned (OpenSpec.ofChange authVerifiesSpec)

/-- ITS FALSE NEIGHBOUR: 'it returns false'. Refute it at one input. -/
def authVerifiesWrong : ChangeSpec := { name := "authVerifies", fn := fun _ => fun
  | [d1, d2] => { results := [.lit (.bool false)], args := [d1, d2] }
  | _ => none }
def AuthVerifiesWrongFalsely : Prop := authVerifiesRow.holds Tryz.pinned (OpenSpec.ofChange authVerifiesWrong)

/-- 'capsulelaw38.AuthProves': WHATEVER THE INPUT: true; the input reads as it did. -/
def authProvesSpec : ChangeSpec := { name := "authProves", fn := fun _ => fun
  | [d1, d2] => { results := [.lit (.bool true)], args := [d1, d2] }
  | _ => none }
def authProvesRow : OpenClaim := { program := "ytakdoijemopejaagreat", sum := "29b139013fd8a403a2f532de166fb27f5880d125e0c2161f1a62ca96616cabbe", func := "capsule/capsulelaw38.AuthProves", spec := "authProves", inPlace := ["internal/abi.NoEscape", "internal/bytealg.MakeNoZero", "math/bits.Add64"], unfollowed := true, recurses := true, apart := false }
def AuthProvesSaid : Prop := authProvesRow.holds Tryz.pinned (OpenSpec.ofChange authProvesSpec)

/-- ITS FALSE NEIGHBOUR: 'it returns false'. Refute it at one input. -/
def authProvesWrong : ChangeSpec := { name := "authProves", fn := fun _ => fun
  | [d1, d2] => { results := [.lit (.bool false)], args := [d1, d2] }
  | _ => none }
def AuthProvesWrongFalsely : Prop := authProvesRow.holds Tryz.pinned (OpenSpec.ofChange authProvesWrong)

/-- 'capsulelaw38.AuthResponses': WHATEVER THE INPUT: true; the input reads as it did. -/
def authResponsesSpec : ChangeSpec := { name := "authResponses", fn := fun _ => fun
  | [d1, d2, d3, d4, d5] => { results := [.lit (.bool true)], args := [d1, d2, d3, d4, d5] }
  | _ => none }
def authResponsesRow : OpenClaim := { program := "ytakdoijemopejaagreat", sum := "29b139013fd8a403a2f532de166fb27f5880d125e0c2161f1a62ca96616cabbe", func := "capsule/capsulelaw38.AuthResponses", spec := "authResponses", inPlace := ["internal/abi.NoEscape", "internal/bytealg.MakeNoZero", "math/bits.Add64"], unfollowed := true, recurses := true, apart := false }
def AuthResponsesSaid : Prop := authResponsesRow.holds Tryz.pinned (OpenSpec.ofChange authResponsesSpec)

/-- ITS FALSE NEIGHBOUR: 'it returns false'. Refute it at one input. -/
def authResponsesWrong : ChangeSpec := { name := "authResponses", fn := fun _ => fun
  | [d1, d2, d3, d4, d5] => { results := [.lit (.bool false)], args := [d1, d2, d3, d4, d5] }
  | _ => none }
def AuthResponsesWrongFalsely : Prop := authResponsesRow.holds Tryz.pinned (OpenSpec.ofChange authResponsesWrong)

/- THE SECOND FORM. 'bulk': how many values and letters a reading holds, each counted each time it is reached (what is shared counts as often as it is met; a slice's spare places count too). A statement '..UptoSaid' is the law's where the arguments, and the package variables that the reading takes, are together of bulk at most 1048576: NARROWER than '..Said'. Prove '..Said' where nothing that the law and all that it calls make is longer than what came in: it says more and counts as full. Else prove '..UptoSaid'. A law counts once. -/
mutual
def uptoBulk {H : Type} : DataW H → Nat
  | .lit (.string bytes) => bytes.length + 1
  | .lit _ => 1
  | .nil => 1
  | .ptr d => uptoBulk d + 1
  | .slice elems spare => uptoBulkAll elems + uptoBulkAll spare + 1
  | .agg parts => uptoBulkAll parts + 1
  | .iface _ d => uptoBulk d + 1
  | .map entries => uptoBulkEntries entries + 1
  | .held _ => 1
def uptoBulkAll {H : Type} : List (DataW H) → Nat
  | [] => 0
  | d :: r => uptoBulk d + uptoBulkAll r
def uptoBulkEntries {H : Type} : List (Lit × DataW H) → Nat
  | [] => 0
  | x :: r => uptoBulkEntry x + uptoBulkEntries r
def uptoBulkEntry {H : Type} : Lit × DataW H → Nat
  | (.string bytes, d) => bytes.length + uptoBulk d + 1
  | (_, d) => uptoBulk d + 1
 end
def uptoSmall : (H : Type) → List (DataW H) → Bool := fun _ ds => decide (uptoBulkAll ds ≤ 1048576)
def OpenSpec.upto (s : _root_.Go.ChangeSpec) : _root_.Go.OpenSpec := { _root_.Go.OpenSpec.ofChange s with cond := some uptoSmall }

/-- 'capsulelaw38.AuthVerifies', WHERE WHAT IT READS IS OF BULK AT MOST 1048576: true; the input reads as it did. -/
def authVerifiesUptoRow : OpenClaim := { program := "ytakdoijemopejaagreat", sum := "29b139013fd8a403a2f532de166fb27f5880d125e0c2161f1a62ca96616cabbe", func := "capsule/capsulelaw38.AuthVerifies", spec := "authVerifies", inPlace := ["internal/abi.NoEscape", "internal/bytealg.MakeNoZero", "math/bits.Add64"], unfollowed := true, recurses := true, apart := false, narrowed := true }
def AuthVerifiesUptoSaid : Prop := authVerifiesUptoRow.holds Tryz.pinned (OpenSpec.upto authVerifiesSpec)

/-- 'capsulelaw38.AuthProves', WHERE WHAT IT READS IS OF BULK AT MOST 1048576: true; the input reads as it did. -/
def authProvesUptoRow : OpenClaim := { program := "ytakdoijemopejaagreat", sum := "29b139013fd8a403a2f532de166fb27f5880d125e0c2161f1a62ca96616cabbe", func := "capsule/capsulelaw38.AuthProves", spec := "authProves", inPlace := ["internal/abi.NoEscape", "internal/bytealg.MakeNoZero", "math/bits.Add64"], unfollowed := true, recurses := true, apart := false, narrowed := true }
def AuthProvesUptoSaid : Prop := authProvesUptoRow.holds Tryz.pinned (OpenSpec.upto authProvesSpec)

/-- 'capsulelaw38.AuthResponses', WHERE WHAT IT READS IS OF BULK AT MOST 1048576: true; the input reads as it did. -/
def authResponsesUptoRow : OpenClaim := { program := "ytakdoijemopejaagreat", sum := "29b139013fd8a403a2f532de166fb27f5880d125e0c2161f1a62ca96616cabbe", func := "capsule/capsulelaw38.AuthResponses", spec := "authResponses", inPlace := ["internal/abi.NoEscape", "internal/bytealg.MakeNoZero", "math/bits.Add64"], unfollowed := true, recurses := true, apart := false, narrowed := true }
def AuthResponsesUptoSaid : Prop := authResponsesUptoRow.holds Tryz.pinned (OpenSpec.upto authResponsesSpec)

end Rows
end Go.Proofs.YtakdoijemopejaaGreat

/-
  No cell of these rows narrows 'for every input' (looked for: loops, veiled, ifaces, maps, wideKeys, modest, calm, conditions, laid).
  DERIVED. THE GIVEN ROWS OF THIS SEAT. 6 by the template 'for every input the law returns true; each argument reads behind the call as it read before'; 0 by the template 'total and deterministic' (their statements: YtdngfcmakjlamaaTotals.lean).
  GIVEN WITH THE SEED: the statements are not yours to turn. If you find one false, say at which input.
  Laid BY PROGRAM, IN A SANDBOX (cutbox-rows.mjs): the forced cells as the released guide's own fill.sh prints them over the translation ee8efb3ecc1d3436… (all of the seat's roots in one cut). By AI agents, Wed Nov 11 2026. No macro, syntax, notation, axiom, sorry.
-/
import Derived.Test.YtdngfcmakjlamaaChecked
import GoSem.Claim
import GoSem.ClaimJoined
import GoSem.ClaimMapViews
import Derived.JoinedTies
import Derived.KernelRfl
namespace Go.Proofs.Ytdngfcmakjlamaa
/- THE CELL 'sum', in the pinned program and in every row, IS THE sha256 OF THE DUMP (.gsa) THAT YtdngfcmakjlamaaProg.lean LOADS. Nothing in Lean hashes anything: it is a label: what it is worth is what the hold of that sum in a sandbox is worth. -/
noncomputable def Try.pinned : Pinned := { name := "ytdngfcmakjlamaa", sum := "ee8efb3ecc1d3436b012fe1e1c739fc93a46f5e5ddb1da1c02c8209b558261f7", checked := Try.checked }
namespace Rows
def none {H : Type} : Left H := { results := [], args := [] }

/-- 'capsulelaw36.StreamDivides': WHATEVER THE INPUT: true; the input reads as it did. -/
def streamDividesSpec : ChangeSpec := { name := "streamDivides", fn := fun _ => fun
  | [d1, d2, d3, d4] => { results := [.lit (.bool true)], args := [d1, d2, d3, d4] }
  | _ => none }
def streamDividesRow : OpenClaim := { program := "ytdngfcmakjlamaa", sum := "ee8efb3ecc1d3436b012fe1e1c739fc93a46f5e5ddb1da1c02c8209b558261f7", func := "capsule/capsulelaw36.StreamDivides", spec := "streamDivides", unfollowed := true, recurses := true, apart := false }
def StreamDividesSaid : Prop := streamDividesRow.holds Try.pinned (OpenSpec.ofChange streamDividesSpec)

/-- ITS FALSE NEIGHBOUR: 'it returns false'. Refute it at one input. -/
def streamDividesWrong : ChangeSpec := { name := "streamDivides", fn := fun _ => fun
  | [d1, d2, d3, d4] => { results := [.lit (.bool false)], args := [d1, d2, d3, d4] }
  | _ => none }
def StreamDividesWrongFalsely : Prop := streamDividesRow.holds Try.pinned (OpenSpec.ofChange streamDividesWrong)

/-- 'capsulelaw36.StreamJoins': WHATEVER THE INPUT: true; the input reads as it did. -/
def streamJoinsSpec : ChangeSpec := { name := "streamJoins", fn := fun _ => fun
  | [d1, d2] => { results := [.lit (.bool true)], args := [d1, d2] }
  | _ => none }
def streamJoinsRow : OpenClaim := { program := "ytdngfcmakjlamaa", sum := "ee8efb3ecc1d3436b012fe1e1c739fc93a46f5e5ddb1da1c02c8209b558261f7", func := "capsule/capsulelaw36.StreamJoins", spec := "streamJoins", unfollowed := true, recurses := true, apart := false }
def StreamJoinsSaid : Prop := streamJoinsRow.holds Try.pinned (OpenSpec.ofChange streamJoinsSpec)

/-- ITS FALSE NEIGHBOUR: 'it returns false'. Refute it at one input. -/
def streamJoinsWrong : ChangeSpec := { name := "streamJoins", fn := fun _ => fun
  | [d1, d2] => { results := [.lit (.bool false)], args := [d1, d2] }
  | _ => none }
def StreamJoinsWrongFalsely : Prop := streamJoinsRow.holds Try.pinned (OpenSpec.ofChange streamJoinsWrong)

/-- 'capsulelaw36.StreamLimits': WHATEVER THE INPUT: true; the input reads as it did. -/
def streamLimitsSpec : ChangeSpec := { name := "streamLimits", fn := fun _ => fun
  | [d1, d2] => { results := [.lit (.bool true)], args := [d1, d2] }
  | _ => none }
def streamLimitsRow : OpenClaim := { program := "ytdngfcmakjlamaa", sum := "ee8efb3ecc1d3436b012fe1e1c739fc93a46f5e5ddb1da1c02c8209b558261f7", func := "capsule/capsulelaw36.StreamLimits", spec := "streamLimits", unfollowed := true, recurses := true, apart := false }
def StreamLimitsSaid : Prop := streamLimitsRow.holds Try.pinned (OpenSpec.ofChange streamLimitsSpec)

/-- ITS FALSE NEIGHBOUR: 'it returns false'. Refute it at one input. -/
def streamLimitsWrong : ChangeSpec := { name := "streamLimits", fn := fun _ => fun
  | [d1, d2] => { results := [.lit (.bool false)], args := [d1, d2] }
  | _ => none }
def StreamLimitsWrongFalsely : Prop := streamLimitsRow.holds Try.pinned (OpenSpec.ofChange streamLimitsWrong)

/-- 'capsulelaw36.StreamPlays': WHATEVER THE INPUT: true; the input reads as it did. -/
def streamPlaysSpec : ChangeSpec := { name := "streamPlays", fn := fun _ => fun
  | [d1, d2, d3] => { results := [.lit (.bool true)], args := [d1, d2, d3] }
  | _ => none }
def streamPlaysRow : OpenClaim := { program := "ytdngfcmakjlamaa", sum := "ee8efb3ecc1d3436b012fe1e1c739fc93a46f5e5ddb1da1c02c8209b558261f7", func := "capsule/capsulelaw36.StreamPlays", spec := "streamPlays", unfollowed := true, recurses := true, apart := false }
def StreamPlaysSaid : Prop := streamPlaysRow.holds Try.pinned (OpenSpec.ofChange streamPlaysSpec)

/-- ITS FALSE NEIGHBOUR: 'it returns false'. Refute it at one input. -/
def streamPlaysWrong : ChangeSpec := { name := "streamPlays", fn := fun _ => fun
  | [d1, d2, d3] => { results := [.lit (.bool false)], args := [d1, d2, d3] }
  | _ => none }
def StreamPlaysWrongFalsely : Prop := streamPlaysRow.holds Try.pinned (OpenSpec.ofChange streamPlaysWrong)

/-- 'capsulelaw36.StreamCopies': WHATEVER THE INPUT: true; the input reads as it did. -/
def streamCopiesSpec : ChangeSpec := { name := "streamCopies", fn := fun _ => fun
  | [d1, d2, d3, d4] => { results := [.lit (.bool true)], args := [d1, d2, d3, d4] }
  | _ => none }
def streamCopiesRow : OpenClaim := { program := "ytdngfcmakjlamaa", sum := "ee8efb3ecc1d3436b012fe1e1c739fc93a46f5e5ddb1da1c02c8209b558261f7", func := "capsule/capsulelaw36.StreamCopies", spec := "streamCopies", unfollowed := true, recurses := true, apart := false }
def StreamCopiesSaid : Prop := streamCopiesRow.holds Try.pinned (OpenSpec.ofChange streamCopiesSpec)

/-- ITS FALSE NEIGHBOUR: 'it returns false'. Refute it at one input. -/
def streamCopiesWrong : ChangeSpec := { name := "streamCopies", fn := fun _ => fun
  | [d1, d2, d3, d4] => { results := [.lit (.bool false)], args := [d1, d2, d3, d4] }
  | _ => none }
def StreamCopiesWrongFalsely : Prop := streamCopiesRow.holds Try.pinned (OpenSpec.ofChange streamCopiesWrong)

/-- 'capsulelaw36.StreamNil': WHATEVER THE INPUT: true; the input reads as it did. -/
def streamNilSpec : ChangeSpec := { name := "streamNil", fn := fun _ => fun
  | [d1, d2] => { results := [.lit (.bool true)], args := [d1, d2] }
  | _ => none }
def streamNilRow : OpenClaim := { program := "ytdngfcmakjlamaa", sum := "ee8efb3ecc1d3436b012fe1e1c739fc93a46f5e5ddb1da1c02c8209b558261f7", func := "capsule/capsulelaw36.StreamNil", spec := "streamNil", unfollowed := true, recurses := true, apart := false }
def StreamNilSaid : Prop := streamNilRow.holds Try.pinned (OpenSpec.ofChange streamNilSpec)

/-- ITS FALSE NEIGHBOUR: 'it returns false'. Refute it at one input. -/
def streamNilWrong : ChangeSpec := { name := "streamNil", fn := fun _ => fun
  | [d1, d2] => { results := [.lit (.bool false)], args := [d1, d2] }
  | _ => none }
def StreamNilWrongFalsely : Prop := streamNilRow.holds Try.pinned (OpenSpec.ofChange streamNilWrong)

/- THE SECOND FORM. 'bulk': how many values and letters a reading holds, each counted each time it is reached (what is shared counts as often as it is met; a slice's spare places count too). A statement '..UptoSaid' is the law's where the arguments, and the package variables that the reading takes, are together of bulk at most 1048576: NARROWER than '..Said'. Prove '..Said' where nothing that the law and all that it calls make is longer than what came in: it says more and counts as full. Else prove '..UptoSaid'. A law counts once. -/
mutual
def uptoBulk {H : Type} : DataW H → Nat
  | .lit (.string bytes) => bytes.length + 1
  | .lit _ => 1
  | .nil => 1
  | .ptr d => uptoBulk d + 1
  | .slice elems spare => uptoBulkAll elems + uptoBulkAll spare + 1
  | .agg parts => uptoBulkAll parts + 1
  | .iface _ d => uptoBulk d + 1
  | .map entries => uptoBulkEntries entries + 1
  | .held _ => 1
def uptoBulkAll {H : Type} : List (DataW H) → Nat
  | [] => 0
  | d :: r => uptoBulk d + uptoBulkAll r
def uptoBulkEntries {H : Type} : List (Lit × DataW H) → Nat
  | [] => 0
  | x :: r => uptoBulkEntry x + uptoBulkEntries r
def uptoBulkEntry {H : Type} : Lit × DataW H → Nat
  | (.string bytes, d) => bytes.length + uptoBulk d + 1
  | (_, d) => uptoBulk d + 1
 end
def uptoSmall : (H : Type) → List (DataW H) → Bool := fun _ ds => decide (uptoBulkAll ds ≤ 1048576)
def OpenSpec.upto (s : _root_.Go.ChangeSpec) : _root_.Go.OpenSpec := { _root_.Go.OpenSpec.ofChange s with cond := some uptoSmall }

/-- 'capsulelaw36.StreamDivides', WHERE WHAT IT READS IS OF BULK AT MOST 1048576: true; the input reads as it did. -/
def streamDividesUptoRow : OpenClaim := { program := "ytdngfcmakjlamaa", sum := "ee8efb3ecc1d3436b012fe1e1c739fc93a46f5e5ddb1da1c02c8209b558261f7", func := "capsule/capsulelaw36.StreamDivides", spec := "streamDivides", unfollowed := true, recurses := true, apart := false, narrowed := true }
def StreamDividesUptoSaid : Prop := streamDividesUptoRow.holds Try.pinned (OpenSpec.upto streamDividesSpec)

/-- 'capsulelaw36.StreamJoins', WHERE WHAT IT READS IS OF BULK AT MOST 1048576: true; the input reads as it did. -/
def streamJoinsUptoRow : OpenClaim := { program := "ytdngfcmakjlamaa", sum := "ee8efb3ecc1d3436b012fe1e1c739fc93a46f5e5ddb1da1c02c8209b558261f7", func := "capsule/capsulelaw36.StreamJoins", spec := "streamJoins", unfollowed := true, recurses := true, apart := false, narrowed := true }
def StreamJoinsUptoSaid : Prop := streamJoinsUptoRow.holds Try.pinned (OpenSpec.upto streamJoinsSpec)

/-- 'capsulelaw36.StreamLimits', WHERE WHAT IT READS IS OF BULK AT MOST 1048576: true; the input reads as it did. -/
def streamLimitsUptoRow : OpenClaim := { program := "ytdngfcmakjlamaa", sum := "ee8efb3ecc1d3436b012fe1e1c739fc93a46f5e5ddb1da1c02c8209b558261f7", func := "capsule/capsulelaw36.StreamLimits", spec := "streamLimits", unfollowed := true, recurses := true, apart := false, narrowed := true }
def StreamLimitsUptoSaid : Prop := streamLimitsUptoRow.holds Try.pinned (OpenSpec.upto streamLimitsSpec)

/-- 'capsulelaw36.StreamPlays', WHERE WHAT IT READS IS OF BULK AT MOST 1048576: true; the input reads as it did. -/
def streamPlaysUptoRow : OpenClaim := { program := "ytdngfcmakjlamaa", sum := "ee8efb3ecc1d3436b012fe1e1c739fc93a46f5e5ddb1da1c02c8209b558261f7", func := "capsule/capsulelaw36.StreamPlays", spec := "streamPlays", unfollowed := true, recurses := true, apart := false, narrowed := true }
def StreamPlaysUptoSaid : Prop := streamPlaysUptoRow.holds Try.pinned (OpenSpec.upto streamPlaysSpec)

/-- 'capsulelaw36.StreamCopies', WHERE WHAT IT READS IS OF BULK AT MOST 1048576: true; the input reads as it did. -/
def streamCopiesUptoRow : OpenClaim := { program := "ytdngfcmakjlamaa", sum := "ee8efb3ecc1d3436b012fe1e1c739fc93a46f5e5ddb1da1c02c8209b558261f7", func := "capsule/capsulelaw36.StreamCopies", spec := "streamCopies", unfollowed := true, recurses := true, apart := false, narrowed := true }
def StreamCopiesUptoSaid : Prop := streamCopiesUptoRow.holds Try.pinned (OpenSpec.upto streamCopiesSpec)

/-- 'capsulelaw36.StreamNil', WHERE WHAT IT READS IS OF BULK AT MOST 1048576: true; the input reads as it did. -/
def streamNilUptoRow : OpenClaim := { program := "ytdngfcmakjlamaa", sum := "ee8efb3ecc1d3436b012fe1e1c739fc93a46f5e5ddb1da1c02c8209b558261f7", func := "capsule/capsulelaw36.StreamNil", spec := "streamNil", unfollowed := true, recurses := true, apart := false, narrowed := true }
def StreamNilUptoSaid : Prop := streamNilUptoRow.holds Try.pinned (OpenSpec.upto streamNilSpec)

end Rows
end Go.Proofs.Ytdngfcmakjlamaa

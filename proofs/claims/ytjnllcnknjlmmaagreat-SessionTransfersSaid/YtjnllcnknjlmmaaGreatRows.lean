/-
  No cell of these rows narrows 'for every input' (looked for: loops, veiled, ifaces, maps, wideKeys, modest, calm, conditions, laid).
  DERIVED. THE GIVEN ROWS OF THIS SEAT. 12 by the template 'for every input the law returns true; each argument reads behind the call as it read before'; 0 by the template 'total and deterministic' (their statements: YtjnllcnknjlmmaaGreatTotals.lean).
  GIVEN WITH THE SEED: the statements are not yours to turn. If you find one false, say at which input.
  Laid BY PROGRAM, IN A SANDBOX (cutbox-rows.mjs): the forced cells as the released guide's own fill.sh prints them over the translation abf375f40240ec70… (all of the seat's roots in one cut). By AI agents, Wed Nov 11 2026. No macro, syntax, notation, axiom, sorry.
-/
import Derived.Test.YtjnllcnknjlmmaaGreatChecked
import GoSem.Claim
import GoSem.ClaimJoined
import GoSem.ClaimMapViews
import Derived.JoinedTies
import Derived.KernelRfl
namespace Go.Proofs.YtjnllcnknjlmmaaGreat
/- THE CELL 'sum', in the pinned program and in every row, IS THE sha256 OF THE DUMP (.gsa) THAT YtjnllcnknjlmmaaGreatProg.lean LOADS. Nothing in Lean hashes anything: it is a label: what it is worth is what the hold of that sum in a sandbox is worth. -/
noncomputable def Tryz.pinned : Pinned := { name := "ytjnllcnknjlmmaagreat", sum := "abf375f40240ec70cb0c37119d5d868f591a596be33467fdc72772ada8d9887a", checked := Tryz.checked }
namespace Rows
def none {H : Type} : Left H := { results := [], args := [] }

/-- 'capsulelaw43.InitiatorDivides': WHATEVER THE INPUT: true; the input reads as it did. -/
def initiatorDividesSpec : ChangeSpec := { name := "initiatorDivides", fn := fun _ => fun
  | [d1, d2, d3, d4, d5] => { results := [.lit (.bool true)], args := [d1, d2, d3, d4, d5] }
  | _ => none }
def initiatorDividesRow : OpenClaim := { program := "ytjnllcnknjlmmaagreat", sum := "abf375f40240ec70cb0c37119d5d868f591a596be33467fdc72772ada8d9887a", func := "capsule/capsulelaw43.InitiatorDivides", spec := "initiatorDivides", unfollowed := true, recurses := true, plainKeys := false, apart := false }
def InitiatorDividesSaid : Prop := initiatorDividesRow.holds Tryz.pinned (OpenSpec.ofChange initiatorDividesSpec)

/-- ITS FALSE NEIGHBOUR: 'it returns false'. Refute it at one input. -/
def initiatorDividesWrong : ChangeSpec := { name := "initiatorDivides", fn := fun _ => fun
  | [d1, d2, d3, d4, d5] => { results := [.lit (.bool false)], args := [d1, d2, d3, d4, d5] }
  | _ => none }
def InitiatorDividesWrongFalsely : Prop := initiatorDividesRow.holds Tryz.pinned (OpenSpec.ofChange initiatorDividesWrong)

/-- 'capsulelaw43.InitiatorPlays': WHATEVER THE INPUT: true; the input reads as it did. -/
def initiatorPlaysSpec : ChangeSpec := { name := "initiatorPlays", fn := fun _ => fun
  | [d1, d2] => { results := [.lit (.bool true)], args := [d1, d2] }
  | _ => none }
def initiatorPlaysRow : OpenClaim := { program := "ytjnllcnknjlmmaagreat", sum := "abf375f40240ec70cb0c37119d5d868f591a596be33467fdc72772ada8d9887a", func := "capsule/capsulelaw43.InitiatorPlays", spec := "initiatorPlays", unfollowed := true, recurses := true, plainKeys := false, apart := false }
def InitiatorPlaysSaid : Prop := initiatorPlaysRow.holds Tryz.pinned (OpenSpec.ofChange initiatorPlaysSpec)

/-- ITS FALSE NEIGHBOUR: 'it returns false'. Refute it at one input. -/
def initiatorPlaysWrong : ChangeSpec := { name := "initiatorPlays", fn := fun _ => fun
  | [d1, d2] => { results := [.lit (.bool false)], args := [d1, d2] }
  | _ => none }
def InitiatorPlaysWrongFalsely : Prop := initiatorPlaysRow.holds Tryz.pinned (OpenSpec.ofChange initiatorPlaysWrong)

/-- 'capsulelaw43.InitiatorEnds': WHATEVER THE INPUT: true; the input reads as it did. -/
def initiatorEndsSpec : ChangeSpec := { name := "initiatorEnds", fn := fun _ => fun
  | [d1, d2, d3, d4] => { results := [.lit (.bool true)], args := [d1, d2, d3, d4] }
  | _ => none }
def initiatorEndsRow : OpenClaim := { program := "ytjnllcnknjlmmaagreat", sum := "abf375f40240ec70cb0c37119d5d868f591a596be33467fdc72772ada8d9887a", func := "capsule/capsulelaw43.InitiatorEnds", spec := "initiatorEnds", unfollowed := true, recurses := true, plainKeys := false, apart := false }
def InitiatorEndsSaid : Prop := initiatorEndsRow.holds Tryz.pinned (OpenSpec.ofChange initiatorEndsSpec)

/-- ITS FALSE NEIGHBOUR: 'it returns false'. Refute it at one input. -/
def initiatorEndsWrong : ChangeSpec := { name := "initiatorEnds", fn := fun _ => fun
  | [d1, d2, d3, d4] => { results := [.lit (.bool false)], args := [d1, d2, d3, d4] }
  | _ => none }
def InitiatorEndsWrongFalsely : Prop := initiatorEndsRow.holds Tryz.pinned (OpenSpec.ofChange initiatorEndsWrong)

/-- 'capsulelaw43.InitiatorCopies': WHATEVER THE INPUT: true; the input reads as it did. -/
def initiatorCopiesSpec : ChangeSpec := { name := "initiatorCopies", fn := fun _ => fun
  | [d1, d2, d3] => { results := [.lit (.bool true)], args := [d1, d2, d3] }
  | _ => none }
def initiatorCopiesRow : OpenClaim := { program := "ytjnllcnknjlmmaagreat", sum := "abf375f40240ec70cb0c37119d5d868f591a596be33467fdc72772ada8d9887a", func := "capsule/capsulelaw43.InitiatorCopies", spec := "initiatorCopies", unfollowed := true, recurses := true, plainKeys := false, apart := false }
def InitiatorCopiesSaid : Prop := initiatorCopiesRow.holds Tryz.pinned (OpenSpec.ofChange initiatorCopiesSpec)

/-- ITS FALSE NEIGHBOUR: 'it returns false'. Refute it at one input. -/
def initiatorCopiesWrong : ChangeSpec := { name := "initiatorCopies", fn := fun _ => fun
  | [d1, d2, d3] => { results := [.lit (.bool false)], args := [d1, d2, d3] }
  | _ => none }
def InitiatorCopiesWrongFalsely : Prop := initiatorCopiesRow.holds Tryz.pinned (OpenSpec.ofChange initiatorCopiesWrong)

/-- 'capsulelaw43.InitiatorNil': WHATEVER THE INPUT: true; the input reads as it did. -/
def initiatorNilSpec : ChangeSpec := { name := "initiatorNil", fn := fun _ => fun
  | [d1, d2] => { results := [.lit (.bool true)], args := [d1, d2] }
  | _ => none }
def initiatorNilRow : OpenClaim := { program := "ytjnllcnknjlmmaagreat", sum := "abf375f40240ec70cb0c37119d5d868f591a596be33467fdc72772ada8d9887a", func := "capsule/capsulelaw43.InitiatorNil", spec := "initiatorNil", unfollowed := true, recurses := true, plainKeys := false, apart := false }
def InitiatorNilSaid : Prop := initiatorNilRow.holds Tryz.pinned (OpenSpec.ofChange initiatorNilSpec)

/-- ITS FALSE NEIGHBOUR: 'it returns false'. Refute it at one input. -/
def initiatorNilWrong : ChangeSpec := { name := "initiatorNil", fn := fun _ => fun
  | [d1, d2] => { results := [.lit (.bool false)], args := [d1, d2] }
  | _ => none }
def InitiatorNilWrongFalsely : Prop := initiatorNilRow.holds Tryz.pinned (OpenSpec.ofChange initiatorNilWrong)

/-- 'capsulelaw41.SessionDivides': WHATEVER THE INPUT: true; the input reads as it did. -/
def sessionDividesSpec : ChangeSpec := { name := "sessionDivides", fn := fun _ => fun
  | [d1, d2, d3] => { results := [.lit (.bool true)], args := [d1, d2, d3] }
  | _ => none }
def sessionDividesRow : OpenClaim := { program := "ytjnllcnknjlmmaagreat", sum := "abf375f40240ec70cb0c37119d5d868f591a596be33467fdc72772ada8d9887a", func := "capsule/capsulelaw41.SessionDivides", spec := "sessionDivides", unfollowed := true, recurses := true, plainKeys := false, apart := false }
def SessionDividesSaid : Prop := sessionDividesRow.holds Tryz.pinned (OpenSpec.ofChange sessionDividesSpec)

/-- ITS FALSE NEIGHBOUR: 'it returns false'. Refute it at one input. -/
def sessionDividesWrong : ChangeSpec := { name := "sessionDivides", fn := fun _ => fun
  | [d1, d2, d3] => { results := [.lit (.bool false)], args := [d1, d2, d3] }
  | _ => none }
def SessionDividesWrongFalsely : Prop := sessionDividesRow.holds Tryz.pinned (OpenSpec.ofChange sessionDividesWrong)

/-- 'capsulelaw41.SessionTransfers': WHATEVER THE INPUT: true; the input reads as it did. -/
def sessionTransfersSpec : ChangeSpec := { name := "sessionTransfers", fn := fun _ => fun
  | [d1, d2, d3, d4, d5] => { results := [.lit (.bool true)], args := [d1, d2, d3, d4, d5] }
  | _ => none }
def sessionTransfersRow : OpenClaim := { program := "ytjnllcnknjlmmaagreat", sum := "abf375f40240ec70cb0c37119d5d868f591a596be33467fdc72772ada8d9887a", func := "capsule/capsulelaw41.SessionTransfers", spec := "sessionTransfers", unfollowed := true, recurses := true, plainKeys := false, apart := false }
def SessionTransfersSaid : Prop := sessionTransfersRow.holds Tryz.pinned (OpenSpec.ofChange sessionTransfersSpec)

/-- ITS FALSE NEIGHBOUR: 'it returns false'. Refute it at one input. -/
def sessionTransfersWrong : ChangeSpec := { name := "sessionTransfers", fn := fun _ => fun
  | [d1, d2, d3, d4, d5] => { results := [.lit (.bool false)], args := [d1, d2, d3, d4, d5] }
  | _ => none }
def SessionTransfersWrongFalsely : Prop := sessionTransfersRow.holds Tryz.pinned (OpenSpec.ofChange sessionTransfersWrong)

/-- 'capsulelaw41.SessionReplies': WHATEVER THE INPUT: true; the input reads as it did. -/
def sessionRepliesSpec : ChangeSpec := { name := "sessionReplies", fn := fun _ => fun
  | [d1, d2, d3, d4, d5, d6] => { results := [.lit (.bool true)], args := [d1, d2, d3, d4, d5, d6] }
  | _ => none }
def sessionRepliesRow : OpenClaim := { program := "ytjnllcnknjlmmaagreat", sum := "abf375f40240ec70cb0c37119d5d868f591a596be33467fdc72772ada8d9887a", func := "capsule/capsulelaw41.SessionReplies", spec := "sessionReplies", unfollowed := true, recurses := true, plainKeys := false, apart := false }
def SessionRepliesSaid : Prop := sessionRepliesRow.holds Tryz.pinned (OpenSpec.ofChange sessionRepliesSpec)

/-- ITS FALSE NEIGHBOUR: 'it returns false'. Refute it at one input. -/
def sessionRepliesWrong : ChangeSpec := { name := "sessionReplies", fn := fun _ => fun
  | [d1, d2, d3, d4, d5, d6] => { results := [.lit (.bool false)], args := [d1, d2, d3, d4, d5, d6] }
  | _ => none }
def SessionRepliesWrongFalsely : Prop := sessionRepliesRow.holds Tryz.pinned (OpenSpec.ofChange sessionRepliesWrong)

/-- 'capsulelaw41.SessionEnds': WHATEVER THE INPUT: true; the input reads as it did. -/
def sessionEndsSpec : ChangeSpec := { name := "sessionEnds", fn := fun _ => fun
  | [d1, d2, d3, d4] => { results := [.lit (.bool true)], args := [d1, d2, d3, d4] }
  | _ => none }
def sessionEndsRow : OpenClaim := { program := "ytjnllcnknjlmmaagreat", sum := "abf375f40240ec70cb0c37119d5d868f591a596be33467fdc72772ada8d9887a", func := "capsule/capsulelaw41.SessionEnds", spec := "sessionEnds", unfollowed := true, recurses := true, plainKeys := false, apart := false }
def SessionEndsSaid : Prop := sessionEndsRow.holds Tryz.pinned (OpenSpec.ofChange sessionEndsSpec)

/-- ITS FALSE NEIGHBOUR: 'it returns false'. Refute it at one input. -/
def sessionEndsWrong : ChangeSpec := { name := "sessionEnds", fn := fun _ => fun
  | [d1, d2, d3, d4] => { results := [.lit (.bool false)], args := [d1, d2, d3, d4] }
  | _ => none }
def SessionEndsWrongFalsely : Prop := sessionEndsRow.holds Tryz.pinned (OpenSpec.ofChange sessionEndsWrong)

/-- 'capsulelaw41.SessionCopies': WHATEVER THE INPUT: true; the input reads as it did. -/
def sessionCopiesSpec : ChangeSpec := { name := "sessionCopies", fn := fun _ => fun
  | [d1, d2, d3] => { results := [.lit (.bool true)], args := [d1, d2, d3] }
  | _ => none }
def sessionCopiesRow : OpenClaim := { program := "ytjnllcnknjlmmaagreat", sum := "abf375f40240ec70cb0c37119d5d868f591a596be33467fdc72772ada8d9887a", func := "capsule/capsulelaw41.SessionCopies", spec := "sessionCopies", inPlace := ["maps.clone"], unfollowed := true, recurses := true, plainKeys := false, apart := false }
def SessionCopiesSaid : Prop := sessionCopiesRow.holds Tryz.pinned (OpenSpec.ofChange sessionCopiesSpec)

/-- ITS FALSE NEIGHBOUR: 'it returns false'. Refute it at one input. -/
def sessionCopiesWrong : ChangeSpec := { name := "sessionCopies", fn := fun _ => fun
  | [d1, d2, d3] => { results := [.lit (.bool false)], args := [d1, d2, d3] }
  | _ => none }
def SessionCopiesWrongFalsely : Prop := sessionCopiesRow.holds Tryz.pinned (OpenSpec.ofChange sessionCopiesWrong)

/-- 'capsulelaw41.SessionNil': WHATEVER THE INPUT: true; the input reads as it did. -/
def sessionNilSpec : ChangeSpec := { name := "sessionNil", fn := fun _ => fun
  | [d1, d2] => { results := [.lit (.bool true)], args := [d1, d2] }
  | _ => none }
def sessionNilRow : OpenClaim := { program := "ytjnllcnknjlmmaagreat", sum := "abf375f40240ec70cb0c37119d5d868f591a596be33467fdc72772ada8d9887a", func := "capsule/capsulelaw41.SessionNil", spec := "sessionNil", inPlace := ["maps.clone"], unfollowed := true, recurses := true, plainKeys := false, apart := false }
def SessionNilSaid : Prop := sessionNilRow.holds Tryz.pinned (OpenSpec.ofChange sessionNilSpec)

/-- ITS FALSE NEIGHBOUR: 'it returns false'. Refute it at one input. -/
def sessionNilWrong : ChangeSpec := { name := "sessionNil", fn := fun _ => fun
  | [d1, d2] => { results := [.lit (.bool false)], args := [d1, d2] }
  | _ => none }
def SessionNilWrongFalsely : Prop := sessionNilRow.holds Tryz.pinned (OpenSpec.ofChange sessionNilWrong)

/-- 'capsulelaw43.InitiatorJoins': WHATEVER THE INPUT: true; the input reads as it did. -/
def initiatorJoinsSpec : ChangeSpec := { name := "initiatorJoins", fn := fun _ => fun
  | [d1, d2, d3, d4] => { results := [.lit (.bool true)], args := [d1, d2, d3, d4] }
  | _ => none }
def initiatorJoinsRow : OpenClaim := { program := "ytjnllcnknjlmmaagreat", sum := "abf375f40240ec70cb0c37119d5d868f591a596be33467fdc72772ada8d9887a", func := "capsule/capsulelaw43.InitiatorJoins", spec := "initiatorJoins", unfollowed := true, recurses := true, plainKeys := false, apart := false }
def InitiatorJoinsSaid : Prop := initiatorJoinsRow.holds Tryz.pinned (OpenSpec.ofChange initiatorJoinsSpec)

/-- ITS FALSE NEIGHBOUR: 'it returns false'. Refute it at one input. -/
def initiatorJoinsWrong : ChangeSpec := { name := "initiatorJoins", fn := fun _ => fun
  | [d1, d2, d3, d4] => { results := [.lit (.bool false)], args := [d1, d2, d3, d4] }
  | _ => none }
def InitiatorJoinsWrongFalsely : Prop := initiatorJoinsRow.holds Tryz.pinned (OpenSpec.ofChange initiatorJoinsWrong)

/- THE SECOND FORM. 'bulk': how many values and letters a reading holds, each counted each time it is reached (what is shared counts as often as it is met; a slice's spare places count too). A statement '..UptoSaid' is the law's where the arguments, and the package variables that the reading takes, are together of bulk at most 1048576: NARROWER than '..Said'. Prove '..Said' where nothing that the law and all that it calls make is longer than what came in: it says more and counts as full. Else prove '..UptoSaid'. A law counts once. -/
mutual
def uptoBulk {H : Type} : DataW H → Nat
  | .lit (.string bytes) => bytes.length + 1
  | .lit _ => 1
  | .nil => 1
  | .ptr d => uptoBulk d + 1
  | .slice elems spare => uptoBulkAll elems + uptoBulkAll spare + 1
  | .agg parts => uptoBulkAll parts + 1
  | .iface _ d => uptoBulk d + 1
  | .map entries => uptoBulkEntries entries + 1
  | .held _ => 1
def uptoBulkAll {H : Type} : List (DataW H) → Nat
  | [] => 0
  | d :: r => uptoBulk d + uptoBulkAll r
def uptoBulkEntries {H : Type} : List (Lit × DataW H) → Nat
  | [] => 0
  | x :: r => uptoBulkEntry x + uptoBulkEntries r
def uptoBulkEntry {H : Type} : Lit × DataW H → Nat
  | (.string bytes, d) => bytes.length + uptoBulk d + 1
  | (_, d) => uptoBulk d + 1
 end
def uptoSmall : (H : Type) → List (DataW H) → Bool := fun _ ds => decide (uptoBulkAll ds ≤ 1048576)
def OpenSpec.upto (s : _root_.Go.ChangeSpec) : _root_.Go.OpenSpec := { _root_.Go.OpenSpec.ofChange s with cond := some uptoSmall }

/-- 'capsulelaw43.InitiatorDivides', WHERE WHAT IT READS IS OF BULK AT MOST 1048576: true; the input reads as it did. -/
def initiatorDividesUptoRow : OpenClaim := { program := "ytjnllcnknjlmmaagreat", sum := "abf375f40240ec70cb0c37119d5d868f591a596be33467fdc72772ada8d9887a", func := "capsule/capsulelaw43.InitiatorDivides", spec := "initiatorDivides", unfollowed := true, recurses := true, plainKeys := false, apart := false, narrowed := true }
def InitiatorDividesUptoSaid : Prop := initiatorDividesUptoRow.holds Tryz.pinned (OpenSpec.upto initiatorDividesSpec)

/-- 'capsulelaw43.InitiatorPlays', WHERE WHAT IT READS IS OF BULK AT MOST 1048576: true; the input reads as it did. -/
def initiatorPlaysUptoRow : OpenClaim := { program := "ytjnllcnknjlmmaagreat", sum := "abf375f40240ec70cb0c37119d5d868f591a596be33467fdc72772ada8d9887a", func := "capsule/capsulelaw43.InitiatorPlays", spec := "initiatorPlays", unfollowed := true, recurses := true, plainKeys := false, apart := false, narrowed := true }
def InitiatorPlaysUptoSaid : Prop := initiatorPlaysUptoRow.holds Tryz.pinned (OpenSpec.upto initiatorPlaysSpec)

/-- 'capsulelaw43.InitiatorEnds', WHERE WHAT IT READS IS OF BULK AT MOST 1048576: true; the input reads as it did. -/
def initiatorEndsUptoRow : OpenClaim := { program := "ytjnllcnknjlmmaagreat", sum := "abf375f40240ec70cb0c37119d5d868f591a596be33467fdc72772ada8d9887a", func := "capsule/capsulelaw43.InitiatorEnds", spec := "initiatorEnds", unfollowed := true, recurses := true, plainKeys := false, apart := false, narrowed := true }
def InitiatorEndsUptoSaid : Prop := initiatorEndsUptoRow.holds Tryz.pinned (OpenSpec.upto initiatorEndsSpec)

/-- 'capsulelaw43.InitiatorCopies', WHERE WHAT IT READS IS OF BULK AT MOST 1048576: true; the input reads as it did. -/
def initiatorCopiesUptoRow : OpenClaim := { program := "ytjnllcnknjlmmaagreat", sum := "abf375f40240ec70cb0c37119d5d868f591a596be33467fdc72772ada8d9887a", func := "capsule/capsulelaw43.InitiatorCopies", spec := "initiatorCopies", unfollowed := true, recurses := true, plainKeys := false, apart := false, narrowed := true }
def InitiatorCopiesUptoSaid : Prop := initiatorCopiesUptoRow.holds Tryz.pinned (OpenSpec.upto initiatorCopiesSpec)

/-- 'capsulelaw43.InitiatorNil', WHERE WHAT IT READS IS OF BULK AT MOST 1048576: true; the input reads as it did. -/
def initiatorNilUptoRow : OpenClaim := { program := "ytjnllcnknjlmmaagreat", sum := "abf375f40240ec70cb0c37119d5d868f591a596be33467fdc72772ada8d9887a", func := "capsule/capsulelaw43.InitiatorNil", spec := "initiatorNil", unfollowed := true, recurses := true, plainKeys := false, apart := false, narrowed := true }
def InitiatorNilUptoSaid : Prop := initiatorNilUptoRow.holds Tryz.pinned (OpenSpec.upto initiatorNilSpec)

/-- 'capsulelaw41.SessionDivides', WHERE WHAT IT READS IS OF BULK AT MOST 1048576: true; the input reads as it did. -/
def sessionDividesUptoRow : OpenClaim := { program := "ytjnllcnknjlmmaagreat", sum := "abf375f40240ec70cb0c37119d5d868f591a596be33467fdc72772ada8d9887a", func := "capsule/capsulelaw41.SessionDivides", spec := "sessionDivides", unfollowed := true, recurses := true, plainKeys := false, apart := false, narrowed := true }
def SessionDividesUptoSaid : Prop := sessionDividesUptoRow.holds Tryz.pinned (OpenSpec.upto sessionDividesSpec)

/-- 'capsulelaw41.SessionTransfers', WHERE WHAT IT READS IS OF BULK AT MOST 1048576: true; the input reads as it did. -/
def sessionTransfersUptoRow : OpenClaim := { program := "ytjnllcnknjlmmaagreat", sum := "abf375f40240ec70cb0c37119d5d868f591a596be33467fdc72772ada8d9887a", func := "capsule/capsulelaw41.SessionTransfers", spec := "sessionTransfers", unfollowed := true, recurses := true, plainKeys := false, apart := false, narrowed := true }
def SessionTransfersUptoSaid : Prop := sessionTransfersUptoRow.holds Tryz.pinned (OpenSpec.upto sessionTransfersSpec)

/-- 'capsulelaw41.SessionReplies', WHERE WHAT IT READS IS OF BULK AT MOST 1048576: true; the input reads as it did. -/
def sessionRepliesUptoRow : OpenClaim := { program := "ytjnllcnknjlmmaagreat", sum := "abf375f40240ec70cb0c37119d5d868f591a596be33467fdc72772ada8d9887a", func := "capsule/capsulelaw41.SessionReplies", spec := "sessionReplies", unfollowed := true, recurses := true, plainKeys := false, apart := false, narrowed := true }
def SessionRepliesUptoSaid : Prop := sessionRepliesUptoRow.holds Tryz.pinned (OpenSpec.upto sessionRepliesSpec)

/-- 'capsulelaw41.SessionEnds', WHERE WHAT IT READS IS OF BULK AT MOST 1048576: true; the input reads as it did. -/
def sessionEndsUptoRow : OpenClaim := { program := "ytjnllcnknjlmmaagreat", sum := "abf375f40240ec70cb0c37119d5d868f591a596be33467fdc72772ada8d9887a", func := "capsule/capsulelaw41.SessionEnds", spec := "sessionEnds", unfollowed := true, recurses := true, plainKeys := false, apart := false, narrowed := true }
def SessionEndsUptoSaid : Prop := sessionEndsUptoRow.holds Tryz.pinned (OpenSpec.upto sessionEndsSpec)

/-- 'capsulelaw41.SessionCopies', WHERE WHAT IT READS IS OF BULK AT MOST 1048576: true; the input reads as it did. -/
def sessionCopiesUptoRow : OpenClaim := { program := "ytjnllcnknjlmmaagreat", sum := "abf375f40240ec70cb0c37119d5d868f591a596be33467fdc72772ada8d9887a", func := "capsule/capsulelaw41.SessionCopies", spec := "sessionCopies", inPlace := ["maps.clone"], unfollowed := true, recurses := true, plainKeys := false, apart := false, narrowed := true }
def SessionCopiesUptoSaid : Prop := sessionCopiesUptoRow.holds Tryz.pinned (OpenSpec.upto sessionCopiesSpec)

/-- 'capsulelaw41.SessionNil', WHERE WHAT IT READS IS OF BULK AT MOST 1048576: true; the input reads as it did. -/
def sessionNilUptoRow : OpenClaim := { program := "ytjnllcnknjlmmaagreat", sum := "abf375f40240ec70cb0c37119d5d868f591a596be33467fdc72772ada8d9887a", func := "capsule/capsulelaw41.SessionNil", spec := "sessionNil", inPlace := ["maps.clone"], unfollowed := true, recurses := true, plainKeys := false, apart := false, narrowed := true }
def SessionNilUptoSaid : Prop := sessionNilUptoRow.holds Tryz.pinned (OpenSpec.upto sessionNilSpec)

/-- 'capsulelaw43.InitiatorJoins', WHERE WHAT IT READS IS OF BULK AT MOST 1048576: true; the input reads as it did. -/
def initiatorJoinsUptoRow : OpenClaim := { program := "ytjnllcnknjlmmaagreat", sum := "abf375f40240ec70cb0c37119d5d868f591a596be33467fdc72772ada8d9887a", func := "capsule/capsulelaw43.InitiatorJoins", spec := "initiatorJoins", unfollowed := true, recurses := true, plainKeys := false, apart := false, narrowed := true }
def InitiatorJoinsUptoSaid : Prop := initiatorJoinsUptoRow.holds Tryz.pinned (OpenSpec.upto initiatorJoinsSpec)

end Rows
end Go.Proofs.YtjnllcnknjlmmaaGreat

/-
  No cell of these rows narrows 'for every input' (looked for: loops, veiled, ifaces, maps, wideKeys, modest, calm, conditions, laid).
  DERIVED. THE GIVEN ROWS OF THIS SEAT. 5 by the template 'for every input the law returns true; each argument reads behind the call as it read before'; 0 by the template 'total and deterministic' (their statements: YthpgkkfahiglnaaTotals.lean).
  GIVEN WITH THE SEED: the statements are not yours to turn. If you find one false, say at which input.
  Laid BY PROGRAM, IN A SANDBOX (cutbox-rows.mjs): the forced cells as the released guide's own fill.sh prints them over the translation eea202b8e2572f2f… (all of the seat's roots in one cut). By AI agents, Wed Nov 11 2026. No macro, syntax, notation, axiom, sorry.
-/
import Derived.Test.YthpgkkfahiglnaaChecked
import GoSem.Claim
import GoSem.ClaimJoined
import GoSem.ClaimMapViews
import Derived.JoinedTies
import Derived.KernelRfl
namespace Go.Proofs.Ythpgkkfahiglnaa
/- THE CELL 'sum', in the pinned program and in every row, IS THE sha256 OF THE DUMP (.gsa) THAT YthpgkkfahiglnaaProg.lean LOADS. Nothing in Lean hashes anything: it is a label: what it is worth is what the hold of that sum in a sandbox is worth. -/
noncomputable def Try.pinned : Pinned := { name := "ythpgkkfahiglnaa", sum := "eea202b8e2572f2fb6174dacba00b72ec666a5938a5425e8f84efb9cba189555", checked := Try.checked }
namespace Rows
def none {H : Type} : Left H := { results := [], args := [] }

/-- 'capsulelaw28.ZoneBounds': WHATEVER THE INPUT: true; the input reads as it did. -/
def zoneBoundsSpec : ChangeSpec := { name := "zoneBounds", fn := fun _ => fun
  | [d1, d2] => { results := [.lit (.bool true)], args := [d1, d2] }
  | _ => none }
def zoneBoundsRow : OpenClaim := { program := "ythpgkkfahiglnaa", sum := "eea202b8e2572f2fb6174dacba00b72ec666a5938a5425e8f84efb9cba189555", func := "capsule/capsulelaw28.ZoneBounds", spec := "zoneBounds", unfollowed := true, recurses := true, apart := false }
def ZoneBoundsSaid : Prop := zoneBoundsRow.holds Try.pinned (OpenSpec.ofChange zoneBoundsSpec)

/-- ITS FALSE NEIGHBOUR: 'it returns false'. Refute it at one input. -/
def zoneBoundsWrong : ChangeSpec := { name := "zoneBounds", fn := fun _ => fun
  | [d1, d2] => { results := [.lit (.bool false)], args := [d1, d2] }
  | _ => none }
def ZoneBoundsWrongFalsely : Prop := zoneBoundsRow.holds Try.pinned (OpenSpec.ofChange zoneBoundsWrong)

/-- 'capsulelaw28.ZoneConfigs': WHATEVER THE INPUT: true; the input reads as it did. -/
def zoneConfigsSpec : ChangeSpec := { name := "zoneConfigs", fn := fun _ => fun
  | [d1, d2] => { results := [.lit (.bool true)], args := [d1, d2] }
  | _ => none }
def zoneConfigsRow : OpenClaim := { program := "ythpgkkfahiglnaa", sum := "eea202b8e2572f2fb6174dacba00b72ec666a5938a5425e8f84efb9cba189555", func := "capsule/capsulelaw28.ZoneConfigs", spec := "zoneConfigs", unfollowed := true, recurses := true, apart := false }
def ZoneConfigsSaid : Prop := zoneConfigsRow.holds Try.pinned (OpenSpec.ofChange zoneConfigsSpec)

/-- ITS FALSE NEIGHBOUR: 'it returns false'. Refute it at one input. -/
def zoneConfigsWrong : ChangeSpec := { name := "zoneConfigs", fn := fun _ => fun
  | [d1, d2] => { results := [.lit (.bool false)], args := [d1, d2] }
  | _ => none }
def ZoneConfigsWrongFalsely : Prop := zoneConfigsRow.holds Try.pinned (OpenSpec.ofChange zoneConfigsWrong)

/-- 'capsulelaw28.ZonePlays': WHATEVER THE INPUT: true; the input reads as it did. -/
def zonePlaysSpec : ChangeSpec := { name := "zonePlays", fn := fun _ => fun
  | [d1, d2] => { results := [.lit (.bool true)], args := [d1, d2] }
  | _ => none }
def zonePlaysRow : OpenClaim := { program := "ythpgkkfahiglnaa", sum := "eea202b8e2572f2fb6174dacba00b72ec666a5938a5425e8f84efb9cba189555", func := "capsule/capsulelaw28.ZonePlays", spec := "zonePlays", unfollowed := true, recurses := true, apart := false }
def ZonePlaysSaid : Prop := zonePlaysRow.holds Try.pinned (OpenSpec.ofChange zonePlaysSpec)

/-- ITS FALSE NEIGHBOUR: 'it returns false'. Refute it at one input. -/
def zonePlaysWrong : ChangeSpec := { name := "zonePlays", fn := fun _ => fun
  | [d1, d2] => { results := [.lit (.bool false)], args := [d1, d2] }
  | _ => none }
def ZonePlaysWrongFalsely : Prop := zonePlaysRow.holds Try.pinned (OpenSpec.ofChange zonePlaysWrong)

/-- 'capsulelaw28.ZoneEach': WHATEVER THE INPUT: true; the input reads as it did. -/
def zoneEachSpec : ChangeSpec := { name := "zoneEach", fn := fun _ => fun
  | [d1, d2, d3, d4, d5] => { results := [.lit (.bool true)], args := [d1, d2, d3, d4, d5] }
  | _ => none }
def zoneEachRow : OpenClaim := { program := "ythpgkkfahiglnaa", sum := "eea202b8e2572f2fb6174dacba00b72ec666a5938a5425e8f84efb9cba189555", func := "capsule/capsulelaw28.ZoneEach", spec := "zoneEach", unfollowed := true, recurses := true, apart := false }
def ZoneEachSaid : Prop := zoneEachRow.holds Try.pinned (OpenSpec.ofChange zoneEachSpec)

/-- ITS FALSE NEIGHBOUR: 'it returns false'. Refute it at one input. -/
def zoneEachWrong : ChangeSpec := { name := "zoneEach", fn := fun _ => fun
  | [d1, d2, d3, d4, d5] => { results := [.lit (.bool false)], args := [d1, d2, d3, d4, d5] }
  | _ => none }
def ZoneEachWrongFalsely : Prop := zoneEachRow.holds Try.pinned (OpenSpec.ofChange zoneEachWrong)

/-- 'capsulelaw28.ZoneNone': WHATEVER THE INPUT: true; the input reads as it did. -/
def zoneNoneSpec : ChangeSpec := { name := "zoneNone", fn := fun _ => fun
  | [d1, d2] => { results := [.lit (.bool true)], args := [d1, d2] }
  | _ => none }
def zoneNoneRow : OpenClaim := { program := "ythpgkkfahiglnaa", sum := "eea202b8e2572f2fb6174dacba00b72ec666a5938a5425e8f84efb9cba189555", func := "capsule/capsulelaw28.ZoneNone", spec := "zoneNone", unfollowed := true, recurses := true, apart := false }
def ZoneNoneSaid : Prop := zoneNoneRow.holds Try.pinned (OpenSpec.ofChange zoneNoneSpec)

/-- ITS FALSE NEIGHBOUR: 'it returns false'. Refute it at one input. -/
def zoneNoneWrong : ChangeSpec := { name := "zoneNone", fn := fun _ => fun
  | [d1, d2] => { results := [.lit (.bool false)], args := [d1, d2] }
  | _ => none }
def ZoneNoneWrongFalsely : Prop := zoneNoneRow.holds Try.pinned (OpenSpec.ofChange zoneNoneWrong)

/- THE SECOND FORM. 'bulk': how many values and letters a reading holds, each counted each time it is reached (what is shared counts as often as it is met; a slice's spare places count too). A statement '..UptoSaid' is the law's where the arguments, and the package variables that the reading takes, are together of bulk at most 1048576: NARROWER than '..Said'. Prove '..Said' where nothing that the law and all that it calls make is longer than what came in: it says more and counts as full. Else prove '..UptoSaid'. A law counts once. -/
mutual
def uptoBulk {H : Type} : DataW H → Nat
  | .lit (.string bytes) => bytes.length + 1
  | .lit _ => 1
  | .nil => 1
  | .ptr d => uptoBulk d + 1
  | .slice elems spare => uptoBulkAll elems + uptoBulkAll spare + 1
  | .agg parts => uptoBulkAll parts + 1
  | .iface _ d => uptoBulk d + 1
  | .map entries => uptoBulkEntries entries + 1
  | .held _ => 1
def uptoBulkAll {H : Type} : List (DataW H) → Nat
  | [] => 0
  | d :: r => uptoBulk d + uptoBulkAll r
def uptoBulkEntries {H : Type} : List (Lit × DataW H) → Nat
  | [] => 0
  | x :: r => uptoBulkEntry x + uptoBulkEntries r
def uptoBulkEntry {H : Type} : Lit × DataW H → Nat
  | (.string bytes, d) => bytes.length + uptoBulk d + 1
  | (_, d) => uptoBulk d + 1
 end
def uptoSmall : (H : Type) → List (DataW H) → Bool := fun _ ds => decide (uptoBulkAll ds ≤ 1048576)
def OpenSpec.upto (s : _root_.Go.ChangeSpec) : _root_.Go.OpenSpec := { _root_.Go.OpenSpec.ofChange s with cond := some uptoSmall }

/-- 'capsulelaw28.ZoneBounds', WHERE WHAT IT READS IS OF BULK AT MOST 1048576: true; the input reads as it did. -/
def zoneBoundsUptoRow : OpenClaim := { program := "ythpgkkfahiglnaa", sum := "eea202b8e2572f2fb6174dacba00b72ec666a5938a5425e8f84efb9cba189555", func := "capsule/capsulelaw28.ZoneBounds", spec := "zoneBounds", unfollowed := true, recurses := true, apart := false, narrowed := true }
def ZoneBoundsUptoSaid : Prop := zoneBoundsUptoRow.holds Try.pinned (OpenSpec.upto zoneBoundsSpec)

/-- 'capsulelaw28.ZoneConfigs', WHERE WHAT IT READS IS OF BULK AT MOST 1048576: true; the input reads as it did. -/
def zoneConfigsUptoRow : OpenClaim := { program := "ythpgkkfahiglnaa", sum := "eea202b8e2572f2fb6174dacba00b72ec666a5938a5425e8f84efb9cba189555", func := "capsule/capsulelaw28.ZoneConfigs", spec := "zoneConfigs", unfollowed := true, recurses := true, apart := false, narrowed := true }
def ZoneConfigsUptoSaid : Prop := zoneConfigsUptoRow.holds Try.pinned (OpenSpec.upto zoneConfigsSpec)

/-- 'capsulelaw28.ZonePlays', WHERE WHAT IT READS IS OF BULK AT MOST 1048576: true; the input reads as it did. -/
def zonePlaysUptoRow : OpenClaim := { program := "ythpgkkfahiglnaa", sum := "eea202b8e2572f2fb6174dacba00b72ec666a5938a5425e8f84efb9cba189555", func := "capsule/capsulelaw28.ZonePlays", spec := "zonePlays", unfollowed := true, recurses := true, apart := false, narrowed := true }
def ZonePlaysUptoSaid : Prop := zonePlaysUptoRow.holds Try.pinned (OpenSpec.upto zonePlaysSpec)

/-- 'capsulelaw28.ZoneEach', WHERE WHAT IT READS IS OF BULK AT MOST 1048576: true; the input reads as it did. -/
def zoneEachUptoRow : OpenClaim := { program := "ythpgkkfahiglnaa", sum := "eea202b8e2572f2fb6174dacba00b72ec666a5938a5425e8f84efb9cba189555", func := "capsule/capsulelaw28.ZoneEach", spec := "zoneEach", unfollowed := true, recurses := true, apart := false, narrowed := true }
def ZoneEachUptoSaid : Prop := zoneEachUptoRow.holds Try.pinned (OpenSpec.upto zoneEachSpec)

/-- 'capsulelaw28.ZoneNone', WHERE WHAT IT READS IS OF BULK AT MOST 1048576: true; the input reads as it did. -/
def zoneNoneUptoRow : OpenClaim := { program := "ythpgkkfahiglnaa", sum := "eea202b8e2572f2fb6174dacba00b72ec666a5938a5425e8f84efb9cba189555", func := "capsule/capsulelaw28.ZoneNone", spec := "zoneNone", unfollowed := true, recurses := true, apart := false, narrowed := true }
def ZoneNoneUptoSaid : Prop := zoneNoneUptoRow.holds Try.pinned (OpenSpec.upto zoneNoneSpec)

end Rows
end Go.Proofs.Ythpgkkfahiglnaa

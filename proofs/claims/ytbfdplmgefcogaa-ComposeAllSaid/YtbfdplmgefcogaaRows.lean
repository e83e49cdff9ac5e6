/-
  No cell of these rows narrows 'for every input' (looked for: loops, veiled, ifaces, maps, wideKeys, modest, calm, conditions, laid).
  DERIVED. THE GIVEN ROWS OF THIS SEAT. 4 by the template 'for every input the law returns true; each argument reads behind the call as it read before'; 0 by the template 'total and deterministic' (their statements: YtbfdplmgefcogaaTotals.lean).
  GIVEN WITH THE SEED: the statements are not yours to turn. If you find one false, say at which input.
  Laid BY PROGRAM, IN A SANDBOX (cutbox-rows.mjs): the forced cells as the released guide's own fill.sh prints them over the translation e6c9292b6c65e079… (all of the seat's roots in one cut). By AI agents, Wed Nov 11 2026. No macro, syntax, notation, axiom, sorry.
-/
import Derived.Test.YtbfdplmgefcogaaChecked
import GoSem.Claim
import GoSem.ClaimJoined
import GoSem.ClaimMapViews
import Derived.JoinedTies
import Derived.KernelRfl
namespace Go.Proofs.Ytbfdplmgefcogaa
/- THE CELL 'sum', in the pinned program and in every row, IS THE sha256 OF THE DUMP (.gsa) THAT YtbfdplmgefcogaaProg.lean LOADS. Nothing in Lean hashes anything: it is a label: what it is worth is what the hold of that sum in a sandbox is worth. -/
noncomputable def Try.pinned : Pinned := { name := "ytbfdplmgefcogaa", sum := "e6c9292b6c65e079fd00079f4e4bf3bda5573fa967adb063a801c489b3df0fbb", checked := Try.checked }
namespace Rows
def none {H : Type} : Left H := { results := [], args := [] }

/-- 'variorumlaw08.ComposeTwo': WHATEVER THE INPUT: true; the input reads as it did. -/
def composeTwoSpec : ChangeSpec := { name := "composeTwo", fn := fun _ => fun
  | [d1, d2] => { results := [.lit (.bool true)], args := [d1, d2] }
  | _ => none }
def composeTwoRow : OpenClaim := { program := "ytbfdplmgefcogaa", sum := "e6c9292b6c65e079fd00079f4e4bf3bda5573fa967adb063a801c489b3df0fbb", func := "variorum/variorumlaw08.ComposeTwo", spec := "composeTwo", unfollowed := true, recurses := true, apart := false }
def ComposeTwoSaid : Prop := composeTwoRow.holds Try.pinned (OpenSpec.ofChange composeTwoSpec)

/-- ITS FALSE NEIGHBOUR: 'it returns false'. Refute it at one input. -/
def composeTwoWrong : ChangeSpec := { name := "composeTwo", fn := fun _ => fun
  | [d1, d2] => { results := [.lit (.bool false)], args := [d1, d2] }
  | _ => none }
def ComposeTwoWrongFalsely : Prop := composeTwoRow.holds Try.pinned (OpenSpec.ofChange composeTwoWrong)

/-- 'variorumlaw08.ComposeAll': WHATEVER THE INPUT: true; the input reads as it did. -/
def composeAllSpec : ChangeSpec := { name := "composeAll", fn := fun _ => fun
  | [d1, d2] => { results := [.lit (.bool true)], args := [d1, d2] }
  | _ => none }
def composeAllRow : OpenClaim := { program := "ytbfdplmgefcogaa", sum := "e6c9292b6c65e079fd00079f4e4bf3bda5573fa967adb063a801c489b3df0fbb", func := "variorum/variorumlaw08.ComposeAll", spec := "composeAll", unfollowed := true, recurses := true, apart := false }
def ComposeAllSaid : Prop := composeAllRow.holds Try.pinned (OpenSpec.ofChange composeAllSpec)

/-- ITS FALSE NEIGHBOUR: 'it returns false'. Refute it at one input. -/
def composeAllWrong : ChangeSpec := { name := "composeAll", fn := fun _ => fun
  | [d1, d2] => { results := [.lit (.bool false)], args := [d1, d2] }
  | _ => none }
def ComposeAllWrongFalsely : Prop := composeAllRow.holds Try.pinned (OpenSpec.ofChange composeAllWrong)

/-- 'variorumlaw08.ComposeApplies': WHATEVER THE INPUT: true; the input reads as it did. -/
def composeAppliesSpec : ChangeSpec := { name := "composeApplies", fn := fun _ => fun
  | [d1, d2, d3] => { results := [.lit (.bool true)], args := [d1, d2, d3] }
  | _ => none }
def composeAppliesRow : OpenClaim := { program := "ytbfdplmgefcogaa", sum := "e6c9292b6c65e079fd00079f4e4bf3bda5573fa967adb063a801c489b3df0fbb", func := "variorum/variorumlaw08.ComposeApplies", spec := "composeApplies", inPlace := ["internal/abi.NoEscape"], unfollowed := true, recurses := true, apart := false }
def ComposeAppliesSaid : Prop := composeAppliesRow.holds Try.pinned (OpenSpec.ofChange composeAppliesSpec)

/-- ITS FALSE NEIGHBOUR: 'it returns false'. Refute it at one input. -/
def composeAppliesWrong : ChangeSpec := { name := "composeApplies", fn := fun _ => fun
  | [d1, d2, d3] => { results := [.lit (.bool false)], args := [d1, d2, d3] }
  | _ => none }
def ComposeAppliesWrongFalsely : Prop := composeAppliesRow.holds Try.pinned (OpenSpec.ofChange composeAppliesWrong)

/-- 'variorumlaw08.ComposeThree': WHATEVER THE INPUT: true; the input reads as it did. -/
def composeThreeSpec : ChangeSpec := { name := "composeThree", fn := fun _ => fun
  | [d1, d2, d3, d4] => { results := [.lit (.bool true)], args := [d1, d2, d3, d4] }
  | _ => none }
def composeThreeRow : OpenClaim := { program := "ytbfdplmgefcogaa", sum := "e6c9292b6c65e079fd00079f4e4bf3bda5573fa967adb063a801c489b3df0fbb", func := "variorum/variorumlaw08.ComposeThree", spec := "composeThree", inPlace := ["internal/abi.NoEscape"], unfollowed := true, recurses := true, apart := false }
def ComposeThreeSaid : Prop := composeThreeRow.holds Try.pinned (OpenSpec.ofChange composeThreeSpec)

/-- ITS FALSE NEIGHBOUR: 'it returns false'. Refute it at one input. -/
def composeThreeWrong : ChangeSpec := { name := "composeThree", fn := fun _ => fun
  | [d1, d2, d3, d4] => { results := [.lit (.bool false)], args := [d1, d2, d3, d4] }
  | _ => none }
def ComposeThreeWrongFalsely : Prop := composeThreeRow.holds Try.pinned (OpenSpec.ofChange composeThreeWrong)

/- THE SECOND FORM. 'bulk': how many values and letters a reading holds, each counted each time it is reached (what is shared counts as often as it is met; a slice's spare places count too). A statement '..UptoSaid' is the law's where the arguments, and the package variables that the reading takes, are together of bulk at most 1048576: NARROWER than '..Said'. Prove '..Said' where nothing that the law and all that it calls make is longer than what came in: it says more and counts as full. Else prove '..UptoSaid'. A law counts once. -/
mutual
def uptoBulk {H : Type} : DataW H → Nat
  | .lit (.string bytes) => bytes.length + 1
  | .lit _ => 1
  | .nil => 1
  | .ptr d => uptoBulk d + 1
  | .slice elems spare => uptoBulkAll elems + uptoBulkAll spare + 1
  | .agg parts => uptoBulkAll parts + 1
  | .iface _ d => uptoBulk d + 1
  | .map entries => uptoBulkEntries entries + 1
  | .held _ => 1
def uptoBulkAll {H : Type} : List (DataW H) → Nat
  | [] => 0
  | d :: r => uptoBulk d + uptoBulkAll r
def uptoBulkEntries {H : Type} : List (Lit × DataW H) → Nat
  | [] => 0
  | x :: r => uptoBulkEntry x + uptoBulkEntries r
def uptoBulkEntry {H : Type} : Lit × DataW H → Nat
  | (.string bytes, d) => bytes.length + uptoBulk d + 1
  | (_, d) => uptoBulk d + 1
 end
def uptoSmall : (H : Type) → List (DataW H) → Bool := fun _ ds => decide (uptoBulkAll ds ≤ 1048576)
def OpenSpec.upto (s : _root_.Go.ChangeSpec) : _root_.Go.OpenSpec := { _root_.Go.OpenSpec.ofChange s with cond := some uptoSmall }

/-- 'variorumlaw08.ComposeTwo', WHERE WHAT IT READS IS OF BULK AT MOST 1048576: true; the input reads as it did. -/
def composeTwoUptoRow : OpenClaim := { program := "ytbfdplmgefcogaa", sum := "e6c9292b6c65e079fd00079f4e4bf3bda5573fa967adb063a801c489b3df0fbb", func := "variorum/variorumlaw08.ComposeTwo", spec := "composeTwo", unfollowed := true, recurses := true, apart := false, narrowed := true }
def ComposeTwoUptoSaid : Prop := composeTwoUptoRow.holds Try.pinned (OpenSpec.upto composeTwoSpec)

/-- 'variorumlaw08.ComposeAll', WHERE WHAT IT READS IS OF BULK AT MOST 1048576: true; the input reads as it did. -/
def composeAllUptoRow : OpenClaim := { program := "ytbfdplmgefcogaa", sum := "e6c9292b6c65e079fd00079f4e4bf3bda5573fa967adb063a801c489b3df0fbb", func := "variorum/variorumlaw08.ComposeAll", spec := "composeAll", unfollowed := true, recurses := true, apart := false, narrowed := true }
def ComposeAllUptoSaid : Prop := composeAllUptoRow.holds Try.pinned (OpenSpec.upto composeAllSpec)

/-- 'variorumlaw08.ComposeApplies', WHERE WHAT IT READS IS OF BULK AT MOST 1048576: true; the input reads as it did. -/
def composeAppliesUptoRow : OpenClaim := { program := "ytbfdplmgefcogaa", sum := "e6c9292b6c65e079fd00079f4e4bf3bda5573fa967adb063a801c489b3df0fbb", func := "variorum/variorumlaw08.ComposeApplies", spec := "composeApplies", inPlace := ["internal/abi.NoEscape"], unfollowed := true, recurses := true, apart := false, narrowed := true }
def ComposeAppliesUptoSaid : Prop := composeAppliesUptoRow.holds Try.pinned (OpenSpec.upto composeAppliesSpec)

/-- 'variorumlaw08.ComposeThree', WHERE WHAT IT READS IS OF BULK AT MOST 1048576: true; the input reads as it did. -/
def composeThreeUptoRow : OpenClaim := { program := "ytbfdplmgefcogaa", sum := "e6c9292b6c65e079fd00079f4e4bf3bda5573fa967adb063a801c489b3df0fbb", func := "variorum/variorumlaw08.ComposeThree", spec := "composeThree", inPlace := ["internal/abi.NoEscape"], unfollowed := true, recurses := true, apart := false, narrowed := true }
def ComposeThreeUptoSaid : Prop := composeThreeUptoRow.holds Try.pinned (OpenSpec.upto composeThreeSpec)

end Rows
end Go.Proofs.Ytbfdplmgefcogaa

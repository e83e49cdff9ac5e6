/-
  No cell of these rows narrows 'for every input' (looked for: loops, veiled, ifaces, maps, wideKeys, modest, calm, conditions, laid).
  DERIVED. THE GIVEN ROWS OF THIS SEAT. 4 by the template 'for every input the law returns true; each argument reads behind the call as it read before'; 0 by the template 'total and deterministic' (their statements: YtjbnffadfohofaaTotals.lean).
  GIVEN WITH THE SEED: the statements are not yours to turn. If you find one false, say at which input.
  Laid BY PROGRAM, IN A SANDBOX (cutbox-rows.mjs): the forced cells as the released guide's own fill.sh prints them over the translation 8a7256fad1bc9a2f… (all of the seat's roots in one cut). By AI agents, Wed Nov 11 2026. No macro, syntax, notation, axiom, sorry.
-/
import Derived.Test.YtjbnffadfohofaaChecked
import GoSem.Claim
import GoSem.ClaimJoined
import GoSem.ClaimMapViews
import Derived.JoinedTies
import Derived.KernelRfl
namespace Go.Proofs.Ytjbnffadfohofaa
/- THE CELL 'sum', in the pinned program and in every row, IS THE sha256 OF THE DUMP (.gsa) THAT YtjbnffadfohofaaProg.lean LOADS. Nothing in Lean hashes anything: it is a label: what it is worth is what the hold of that sum in a sandbox is worth. -/
noncomputable def Try.pinned : Pinned := { name := "ytjbnffadfohofaa", sum := "8a7256fad1bc9a2f91c5291c639381f1954281e408357db13ed9a819ae4c75b4", checked := Try.checked }
namespace Rows
def none {H : Type} : Left H := { results := [], args := [] }

/-- 'variorumlaw36.CarryMoves': WHATEVER THE INPUT: true; the input reads as it did. -/
def carryMovesSpec : ChangeSpec := { name := "carryMoves", fn := fun _ => fun
  | [d1, d2] => { results := [.lit (.bool true)], args := [d1, d2] }
  | _ => none }
def carryMovesRow : OpenClaim := { program := "ytjbnffadfohofaa", sum := "8a7256fad1bc9a2f91c5291c639381f1954281e408357db13ed9a819ae4c75b4", func := "variorum/variorumlaw36.CarryMoves", spec := "carryMoves", unfollowed := true, recurses := true, apart := false }
def CarryMovesSaid : Prop := carryMovesRow.holds Try.pinned (OpenSpec.ofChange carryMovesSpec)

/-- ITS FALSE NEIGHBOUR: 'it returns false'. Refute it at one input. -/
def carryMovesWrong : ChangeSpec := { name := "carryMoves", fn := fun _ => fun
  | [d1, d2] => { results := [.lit (.bool false)], args := [d1, d2] }
  | _ => none }
def CarryMovesWrongFalsely : Prop := carryMovesRow.holds Try.pinned (OpenSpec.ofChange carryMovesWrong)

/-- 'variorumlaw36.CarryShows': WHATEVER THE INPUT: true; the input reads as it did. -/
def carryShowsSpec : ChangeSpec := { name := "carryShows", fn := fun _ => fun
  | [d1, d2, d3] => { results := [.lit (.bool true)], args := [d1, d2, d3] }
  | _ => none }
def carryShowsRow : OpenClaim := { program := "ytjbnffadfohofaa", sum := "8a7256fad1bc9a2f91c5291c639381f1954281e408357db13ed9a819ae4c75b4", func := "variorum/variorumlaw36.CarryShows", spec := "carryShows", unfollowed := true, recurses := true, apart := false }
def CarryShowsSaid : Prop := carryShowsRow.holds Try.pinned (OpenSpec.ofChange carryShowsSpec)

/-- ITS FALSE NEIGHBOUR: 'it returns false'. Refute it at one input. -/
def carryShowsWrong : ChangeSpec := { name := "carryShows", fn := fun _ => fun
  | [d1, d2, d3] => { results := [.lit (.bool false)], args := [d1, d2, d3] }
  | _ => none }
def CarryShowsWrongFalsely : Prop := carryShowsRow.holds Try.pinned (OpenSpec.ofChange carryShowsWrong)

/-- 'variorumlaw36.CarryWithin': WHATEVER THE INPUT: true; the input reads as it did. -/
def carryWithinSpec : ChangeSpec := { name := "carryWithin", fn := fun _ => fun
  | [d1, d2, d3] => { results := [.lit (.bool true)], args := [d1, d2, d3] }
  | _ => none }
def carryWithinRow : OpenClaim := { program := "ytjbnffadfohofaa", sum := "8a7256fad1bc9a2f91c5291c639381f1954281e408357db13ed9a819ae4c75b4", func := "variorum/variorumlaw36.CarryWithin", spec := "carryWithin", unfollowed := true, recurses := true, apart := false }
def CarryWithinSaid : Prop := carryWithinRow.holds Try.pinned (OpenSpec.ofChange carryWithinSpec)

/-- ITS FALSE NEIGHBOUR: 'it returns false'. Refute it at one input. -/
def carryWithinWrong : ChangeSpec := { name := "carryWithin", fn := fun _ => fun
  | [d1, d2, d3] => { results := [.lit (.bool false)], args := [d1, d2, d3] }
  | _ => none }
def CarryWithinWrongFalsely : Prop := carryWithinRow.holds Try.pinned (OpenSpec.ofChange carryWithinWrong)

/-- 'variorumlaw36.CarryNobody': WHATEVER THE INPUT: true; the input reads as it did. -/
def carryNobodySpec : ChangeSpec := { name := "carryNobody", fn := fun _ => fun
  | [d] => { results := [.lit (.bool true)], args := [d] }
  | _ => none }
def carryNobodyRow : OpenClaim := { program := "ytjbnffadfohofaa", sum := "8a7256fad1bc9a2f91c5291c639381f1954281e408357db13ed9a819ae4c75b4", func := "variorum/variorumlaw36.CarryNobody", spec := "carryNobody", unfollowed := true, recurses := true, apart := false }
def CarryNobodySaid : Prop := carryNobodyRow.holds Try.pinned (OpenSpec.ofChange carryNobodySpec)

/-- ITS FALSE NEIGHBOUR: 'it returns false'. Refute it at one input. -/
def carryNobodyWrong : ChangeSpec := { name := "carryNobody", fn := fun _ => fun
  | [d] => { results := [.lit (.bool false)], args := [d] }
  | _ => none }
def CarryNobodyWrongFalsely : Prop := carryNobodyRow.holds Try.pinned (OpenSpec.ofChange carryNobodyWrong)

/- THE SECOND FORM. 'bulk': how many values and letters a reading holds, each counted each time it is reached (what is shared counts as often as it is met; a slice's spare places count too). A statement '..UptoSaid' is the law's where the arguments, and the package variables that the reading takes, are together of bulk at most 1048576: NARROWER than '..Said'. Prove '..Said' where nothing that the law and all that it calls make is longer than what came in: it says more and counts as full. Else prove '..UptoSaid'. A law counts once. -/
mutual
def uptoBulk {H : Type} : DataW H → Nat
  | .lit (.string bytes) => bytes.length + 1
  | .lit _ => 1
  | .nil => 1
  | .ptr d => uptoBulk d + 1
  | .slice elems spare => uptoBulkAll elems + uptoBulkAll spare + 1
  | .agg parts => uptoBulkAll parts + 1
  | .iface _ d => uptoBulk d + 1
  | .map entries => uptoBulkEntries entries + 1
  | .held _ => 1
def uptoBulkAll {H : Type} : List (DataW H) → Nat
  | [] => 0
  | d :: r => uptoBulk d + uptoBulkAll r
def uptoBulkEntries {H : Type} : List (Lit × DataW H) → Nat
  | [] => 0
  | x :: r => uptoBulkEntry x + uptoBulkEntries r
def uptoBulkEntry {H : Type} : Lit × DataW H → Nat
  | (.string bytes, d) => bytes.length + uptoBulk d + 1
  | (_, d) => uptoBulk d + 1
 end
def uptoSmall : (H : Type) → List (DataW H) → Bool := fun _ ds => decide (uptoBulkAll ds ≤ 1048576)
def OpenSpec.upto (s : _root_.Go.ChangeSpec) : _root_.Go.OpenSpec := { _root_.Go.OpenSpec.ofChange s with cond := some uptoSmall }

/-- 'variorumlaw36.CarryMoves', WHERE WHAT IT READS IS OF BULK AT MOST 1048576: true; the input reads as it did. -/
def carryMovesUptoRow : OpenClaim := { program := "ytjbnffadfohofaa", sum := "8a7256fad1bc9a2f91c5291c639381f1954281e408357db13ed9a819ae4c75b4", func := "variorum/variorumlaw36.CarryMoves", spec := "carryMoves", unfollowed := true, recurses := true, apart := false, narrowed := true }
def CarryMovesUptoSaid : Prop := carryMovesUptoRow.holds Try.pinned (OpenSpec.upto carryMovesSpec)

/-- 'variorumlaw36.CarryShows', WHERE WHAT IT READS IS OF BULK AT MOST 1048576: true; the input reads as it did. -/
def carryShowsUptoRow : OpenClaim := { program := "ytjbnffadfohofaa", sum := "8a7256fad1bc9a2f91c5291c639381f1954281e408357db13ed9a819ae4c75b4", func := "variorum/variorumlaw36.CarryShows", spec := "carryShows", unfollowed := true, recurses := true, apart := false, narrowed := true }
def CarryShowsUptoSaid : Prop := carryShowsUptoRow.holds Try.pinned (OpenSpec.upto carryShowsSpec)

/-- 'variorumlaw36.CarryWithin', WHERE WHAT IT READS IS OF BULK AT MOST 1048576: true; the input reads as it did. -/
def carryWithinUptoRow : OpenClaim := { program := "ytjbnffadfohofaa", sum := "8a7256fad1bc9a2f91c5291c639381f1954281e408357db13ed9a819ae4c75b4", func := "variorum/variorumlaw36.CarryWithin", spec := "carryWithin", unfollowed := true, recurses := true, apart := false, narrowed := true }
def CarryWithinUptoSaid : Prop := carryWithinUptoRow.holds Try.pinned (OpenSpec.upto carryWithinSpec)

/-- 'variorumlaw36.CarryNobody', WHERE WHAT IT READS IS OF BULK AT MOST 1048576: true; the input reads as it did. -/
def carryNobodyUptoRow : OpenClaim := { program := "ytjbnffadfohofaa", sum := "8a7256fad1bc9a2f91c5291c639381f1954281e408357db13ed9a819ae4c75b4", func := "variorum/variorumlaw36.CarryNobody", spec := "carryNobody", unfollowed := true, recurses := true, apart := false, narrowed := true }
def CarryNobodyUptoSaid : Prop := carryNobodyUptoRow.holds Try.pinned (OpenSpec.upto carryNobodySpec)

end Rows
end Go.Proofs.Ytjbnffadfohofaa

/-
  No cell of these rows narrows 'for every input' (looked for: loops, veiled, ifaces, maps, wideKeys, modest, calm, conditions, laid).
  DERIVED. THE GIVEN ROWS OF THIS SEAT. 9 by the template 'for every input the law returns true; each argument reads behind the call as it read before'; 0 by the template 'total and deterministic' (their statements: YthocalfgeaclgaaTotals.lean).
  GIVEN WITH THE SEED: the statements are not yours to turn. If you find one false, say at which input.
  Laid BY PROGRAM, IN A SANDBOX (cutbox-rows.mjs): the forced cells as the released guide's own fill.sh prints them over the translation 13cc4a14b791ea71… (all of the seat's roots in one cut). By AI agents, Wed Nov 11 2026. No macro, syntax, notation, axiom, sorry.
-/
import Derived.Test.YthocalfgeaclgaaChecked
import GoSem.Claim
import GoSem.ClaimJoined
import GoSem.ClaimMapViews
import Derived.JoinedTies
import Derived.KernelRfl
namespace Go.Proofs.Ythocalfgeaclgaa
/- THE CELL 'sum', in the pinned program and in every row, IS THE sha256 OF THE DUMP (.gsa) THAT YthocalfgeaclgaaProg.lean LOADS. Nothing in Lean hashes anything: it is a label: what it is worth is what the hold of that sum in a sandbox is worth. -/
noncomputable def Try.pinned : Pinned := { name := "ythocalfgeaclgaa", sum := "13cc4a14b791ea71d73032b36ab51ff6e9d2f2ae0f7b33588bb00579510b1c10", checked := Try.checked }
namespace Rows
def none {H : Type} : Left H := { results := [], args := [] }

/-- 'variorumlaw10.PlaceTells': WHATEVER THE INPUT: true; the input reads as it did. -/
def placeTellsSpec : ChangeSpec := { name := "placeTells", fn := fun _ => fun
  | [d1, d2, d3, d4] => { results := [.lit (.bool true)], args := [d1, d2, d3, d4] }
  | _ => none }
def placeTellsRow : OpenClaim := { program := "ythocalfgeaclgaa", sum := "13cc4a14b791ea71d73032b36ab51ff6e9d2f2ae0f7b33588bb00579510b1c10", func := "variorum/variorumlaw10.PlaceTells", spec := "placeTells", unfollowed := true, recurses := true, apart := false }
def PlaceTellsSaid : Prop := placeTellsRow.holds Try.pinned (OpenSpec.ofChange placeTellsSpec)

/-- ITS FALSE NEIGHBOUR: 'it returns false'. Refute it at one input. -/
def placeTellsWrong : ChangeSpec := { name := "placeTells", fn := fun _ => fun
  | [d1, d2, d3, d4] => { results := [.lit (.bool false)], args := [d1, d2, d3, d4] }
  | _ => none }
def PlaceTellsWrongFalsely : Prop := placeTellsRow.holds Try.pinned (OpenSpec.ofChange placeTellsWrong)

/-- 'variorumlaw10.PlaceOrder': WHATEVER THE INPUT: true; the input reads as it did. -/
def placeOrderSpec : ChangeSpec := { name := "placeOrder", fn := fun _ => fun
  | [d1, d2, d3, d4] => { results := [.lit (.bool true)], args := [d1, d2, d3, d4] }
  | _ => none }
def placeOrderRow : OpenClaim := { program := "ythocalfgeaclgaa", sum := "13cc4a14b791ea71d73032b36ab51ff6e9d2f2ae0f7b33588bb00579510b1c10", func := "variorum/variorumlaw10.PlaceOrder", spec := "placeOrder", unfollowed := true, recurses := true, apart := false }
def PlaceOrderSaid : Prop := placeOrderRow.holds Try.pinned (OpenSpec.ofChange placeOrderSpec)

/-- ITS FALSE NEIGHBOUR: 'it returns false'. Refute it at one input. -/
def placeOrderWrong : ChangeSpec := { name := "placeOrder", fn := fun _ => fun
  | [d1, d2, d3, d4] => { results := [.lit (.bool false)], args := [d1, d2, d3, d4] }
  | _ => none }
def PlaceOrderWrongFalsely : Prop := placeOrderRow.holds Try.pinned (OpenSpec.ofChange placeOrderWrong)

/-- 'variorumlaw06.EditNorms': WHATEVER THE INPUT: true; the input reads as it did. -/
def editNormsSpec : ChangeSpec := { name := "editNorms", fn := fun _ => fun
  | [d1, d2] => { results := [.lit (.bool true)], args := [d1, d2] }
  | _ => none }
def editNormsRow : OpenClaim := { program := "ythocalfgeaclgaa", sum := "13cc4a14b791ea71d73032b36ab51ff6e9d2f2ae0f7b33588bb00579510b1c10", func := "variorum/variorumlaw06.EditNorms", spec := "editNorms", unfollowed := true, recurses := true, apart := false }
def EditNormsSaid : Prop := editNormsRow.holds Try.pinned (OpenSpec.ofChange editNormsSpec)

/-- ITS FALSE NEIGHBOUR: 'it returns false'. Refute it at one input. -/
def editNormsWrong : ChangeSpec := { name := "editNorms", fn := fun _ => fun
  | [d1, d2] => { results := [.lit (.bool false)], args := [d1, d2] }
  | _ => none }
def EditNormsWrongFalsely : Prop := editNormsRow.holds Try.pinned (OpenSpec.ofChange editNormsWrong)

/-- 'variorumlaw10.PlaceMany': WHATEVER THE INPUT: true; the input reads as it did. -/
def placeManySpec : ChangeSpec := { name := "placeMany", fn := fun _ => fun
  | [d1, d2, d3, d4] => { results := [.lit (.bool true)], args := [d1, d2, d3, d4] }
  | _ => none }
def placeManyRow : OpenClaim := { program := "ythocalfgeaclgaa", sum := "13cc4a14b791ea71d73032b36ab51ff6e9d2f2ae0f7b33588bb00579510b1c10", func := "variorum/variorumlaw10.PlaceMany", spec := "placeMany", unfollowed := true, recurses := true, apart := false }
def PlaceManySaid : Prop := placeManyRow.holds Try.pinned (OpenSpec.ofChange placeManySpec)

/-- ITS FALSE NEIGHBOUR: 'it returns false'. Refute it at one input. -/
def placeManyWrong : ChangeSpec := { name := "placeMany", fn := fun _ => fun
  | [d1, d2, d3, d4] => { results := [.lit (.bool false)], args := [d1, d2, d3, d4] }
  | _ => none }
def PlaceManyWrongFalsely : Prop := placeManyRow.holds Try.pinned (OpenSpec.ofChange placeManyWrong)

/-- 'variorumlaw06.EditMakes': WHATEVER THE INPUT: true; the input reads as it did. -/
def editMakesSpec : ChangeSpec := { name := "editMakes", fn := fun _ => fun
  | [d1, d2, d3, d4] => { results := [.lit (.bool true)], args := [d1, d2, d3, d4] }
  | _ => none }
def editMakesRow : OpenClaim := { program := "ythocalfgeaclgaa", sum := "13cc4a14b791ea71d73032b36ab51ff6e9d2f2ae0f7b33588bb00579510b1c10", func := "variorum/variorumlaw06.EditMakes", spec := "editMakes", unfollowed := true, recurses := true, apart := false }
def EditMakesSaid : Prop := editMakesRow.holds Try.pinned (OpenSpec.ofChange editMakesSpec)

/-- ITS FALSE NEIGHBOUR: 'it returns false'. Refute it at one input. -/
def editMakesWrong : ChangeSpec := { name := "editMakes", fn := fun _ => fun
  | [d1, d2, d3, d4] => { results := [.lit (.bool false)], args := [d1, d2, d3, d4] }
  | _ => none }
def EditMakesWrongFalsely : Prop := editMakesRow.holds Try.pinned (OpenSpec.ofChange editMakesWrong)

/-- 'variorumlaw10.PlaceKeeps': WHATEVER THE INPUT: true; the input reads as it did. -/
def placeKeepsSpec : ChangeSpec := { name := "placeKeeps", fn := fun _ => fun
  | [d1, d2, d3] => { results := [.lit (.bool true)], args := [d1, d2, d3] }
  | _ => none }
def placeKeepsRow : OpenClaim := { program := "ythocalfgeaclgaa", sum := "13cc4a14b791ea71d73032b36ab51ff6e9d2f2ae0f7b33588bb00579510b1c10", func := "variorum/variorumlaw10.PlaceKeeps", spec := "placeKeeps", inPlace := ["internal/abi.NoEscape"], unfollowed := true, recurses := true, apart := false }
def PlaceKeepsSaid : Prop := placeKeepsRow.holds Try.pinned (OpenSpec.ofChange placeKeepsSpec)

/-- ITS FALSE NEIGHBOUR: 'it returns false'. Refute it at one input. -/
def placeKeepsWrong : ChangeSpec := { name := "placeKeeps", fn := fun _ => fun
  | [d1, d2, d3] => { results := [.lit (.bool false)], args := [d1, d2, d3] }
  | _ => none }
def PlaceKeepsWrongFalsely : Prop := placeKeepsRow.holds Try.pinned (OpenSpec.ofChange placeKeepsWrong)

/-- 'variorumlaw07.RunBetween': WHATEVER THE INPUT: true; the input reads as it did. -/
def runBetweenSpec : ChangeSpec := { name := "runBetween", fn := fun _ => fun
  | [d1, d2] => { results := [.lit (.bool true)], args := [d1, d2] }
  | _ => none }
def runBetweenRow : OpenClaim := { program := "ythocalfgeaclgaa", sum := "13cc4a14b791ea71d73032b36ab51ff6e9d2f2ae0f7b33588bb00579510b1c10", func := "variorum/variorumlaw07.RunBetween", spec := "runBetween", inPlace := ["internal/abi.NoEscape"], unfollowed := true, recurses := true, apart := false }
def RunBetweenSaid : Prop := runBetweenRow.holds Try.pinned (OpenSpec.ofChange runBetweenSpec)

/-- ITS FALSE NEIGHBOUR: 'it returns false'. Refute it at one input. -/
def runBetweenWrong : ChangeSpec := { name := "runBetween", fn := fun _ => fun
  | [d1, d2] => { results := [.lit (.bool false)], args := [d1, d2] }
  | _ => none }
def RunBetweenWrongFalsely : Prop := runBetweenRow.holds Try.pinned (OpenSpec.ofChange runBetweenWrong)

/-- 'variorumlaw07.RunFolds': WHATEVER THE INPUT: true; the input reads as it did. -/
def runFoldsSpec : ChangeSpec := { name := "runFolds", fn := fun _ => fun
  | [d1, d2, d3] => { results := [.lit (.bool true)], args := [d1, d2, d3] }
  | _ => none }
def runFoldsRow : OpenClaim := { program := "ythocalfgeaclgaa", sum := "13cc4a14b791ea71d73032b36ab51ff6e9d2f2ae0f7b33588bb00579510b1c10", func := "variorum/variorumlaw07.RunFolds", spec := "runFolds", inPlace := ["internal/abi.NoEscape"], unfollowed := true, recurses := true, apart := false }
def RunFoldsSaid : Prop := runFoldsRow.holds Try.pinned (OpenSpec.ofChange runFoldsSpec)

/-- ITS FALSE NEIGHBOUR: 'it returns false'. Refute it at one input. -/
def runFoldsWrong : ChangeSpec := { name := "runFolds", fn := fun _ => fun
  | [d1, d2, d3] => { results := [.lit (.bool false)], args := [d1, d2, d3] }
  | _ => none }
def RunFoldsWrongFalsely : Prop := runFoldsRow.holds Try.pinned (OpenSpec.ofChange runFoldsWrong)

/-- 'variorumlaw07.RunBack': WHATEVER THE INPUT: true; the input reads as it did. -/
def runBackSpec : ChangeSpec := { name := "runBack", fn := fun _ => fun
  | [d1, d2] => { results := [.lit (.bool true)], args := [d1, d2] }
  | _ => none }
def runBackRow : OpenClaim := { program := "ythocalfgeaclgaa", sum := "13cc4a14b791ea71d73032b36ab51ff6e9d2f2ae0f7b33588bb00579510b1c10", func := "variorum/variorumlaw07.RunBack", spec := "runBack", inPlace := ["internal/abi.NoEscape"], unfollowed := true, recurses := true, apart := false }
def RunBackSaid : Prop := runBackRow.holds Try.pinned (OpenSpec.ofChange runBackSpec)

/-- ITS FALSE NEIGHBOUR: 'it returns false'. Refute it at one input. -/
def runBackWrong : ChangeSpec := { name := "runBack", fn := fun _ => fun
  | [d1, d2] => { results := [.lit (.bool false)], args := [d1, d2] }
  | _ => none }
def RunBackWrongFalsely : Prop := runBackRow.holds Try.pinned (OpenSpec.ofChange runBackWrong)

/- THE SECOND FORM. 'bulk': how many values and letters a reading holds, each counted each time it is reached (what is shared counts as often as it is met; a slice's spare places count too). A statement '..UptoSaid' is the law's where the arguments, and the package variables that the reading takes, are together of bulk at most 1048576: NARROWER than '..Said'. Prove '..Said' where nothing that the law and all that it calls make is longer than what came in: it says more and counts as full. Else prove '..UptoSaid'. A law counts once. -/
mutual
def uptoBulk {H : Type} : DataW H → Nat
  | .lit (.string bytes) => bytes.length + 1
  | .lit _ => 1
  | .nil => 1
  | .ptr d => uptoBulk d + 1
  | .slice elems spare => uptoBulkAll elems + uptoBulkAll spare + 1
  | .agg parts => uptoBulkAll parts + 1
  | .iface _ d => uptoBulk d + 1
  | .map entries => uptoBulkEntries entries + 1
  | .held _ => 1
def uptoBulkAll {H : Type} : List (DataW H) → Nat
  | [] => 0
  | d :: r => uptoBulk d + uptoBulkAll r
def uptoBulkEntries {H : Type} : List (Lit × DataW H) → Nat
  | [] => 0
  | x :: r => uptoBulkEntry x + uptoBulkEntries r
def uptoBulkEntry {H : Type} : Lit × DataW H → Nat
  | (.string bytes, d) => bytes.length + uptoBulk d + 1
  | (_, d) => uptoBulk d + 1
 end
def uptoSmall : (H : Type) → List (DataW H) → Bool := fun _ ds => decide (uptoBulkAll ds ≤ 1048576)
def OpenSpec.upto (s : _root_.Go.ChangeSpec) : _root_.Go.OpenSpec := { _root_.Go.OpenSpec.ofChange s with cond := some uptoSmall }

/-- 'variorumlaw10.PlaceTells', WHERE WHAT IT READS IS OF BULK AT MOST 1048576: true; the input reads as it did. -/
def placeTellsUptoRow : OpenClaim := { program := "ythocalfgeaclgaa", sum := "13cc4a14b791ea71d73032b36ab51ff6e9d2f2ae0f7b33588bb00579510b1c10", func := "variorum/variorumlaw10.PlaceTells", spec := "placeTells", unfollowed := true, recurses := true, apart := false, narrowed := true }
def PlaceTellsUptoSaid : Prop := placeTellsUptoRow.holds Try.pinned (OpenSpec.upto placeTellsSpec)

/-- 'variorumlaw10.PlaceOrder', WHERE WHAT IT READS IS OF BULK AT MOST 1048576: true; the input reads as it did. -/
def placeOrderUptoRow : OpenClaim := { program := "ythocalfgeaclgaa", sum := "13cc4a14b791ea71d73032b36ab51ff6e9d2f2ae0f7b33588bb00579510b1c10", func := "variorum/variorumlaw10.PlaceOrder", spec := "placeOrder", unfollowed := true, recurses := true, apart := false, narrowed := true }
def PlaceOrderUptoSaid : Prop := placeOrderUptoRow.holds Try.pinned (OpenSpec.upto placeOrderSpec)

/-- 'variorumlaw06.EditNorms', WHERE WHAT IT READS IS OF BULK AT MOST 1048576: true; the input reads as it did. -/
def editNormsUptoRow : OpenClaim := { program := "ythocalfgeaclgaa", sum := "13cc4a14b791ea71d73032b36ab51ff6e9d2f2ae0f7b33588bb00579510b1c10", func := "variorum/variorumlaw06.EditNorms", spec := "editNorms", unfollowed := true, recurses := true, apart := false, narrowed := true }
def EditNormsUptoSaid : Prop := editNormsUptoRow.holds Try.pinned (OpenSpec.upto editNormsSpec)

/-- 'variorumlaw10.PlaceMany', WHERE WHAT IT READS IS OF BULK AT MOST 1048576: true; the input reads as it did. -/
def placeManyUptoRow : OpenClaim := { program := "ythocalfgeaclgaa", sum := "13cc4a14b791ea71d73032b36ab51ff6e9d2f2ae0f7b33588bb00579510b1c10", func := "variorum/variorumlaw10.PlaceMany", spec := "placeMany", unfollowed := true, recurses := true, apart := false, narrowed := true }
def PlaceManyUptoSaid : Prop := placeManyUptoRow.holds Try.pinned (OpenSpec.upto placeManySpec)

/-- 'variorumlaw06.EditMakes', WHERE WHAT IT READS IS OF BULK AT MOST 1048576: true; the input reads as it did. -/
def editMakesUptoRow : OpenClaim := { program := "ythocalfgeaclgaa", sum := "13cc4a14b791ea71d73032b36ab51ff6e9d2f2ae0f7b33588bb00579510b1c10", func := "variorum/variorumlaw06.EditMakes", spec := "editMakes", unfollowed := true, recurses := true, apart := false, narrowed := true }
def EditMakesUptoSaid : Prop := editMakesUptoRow.holds Try.pinned (OpenSpec.upto editMakesSpec)

/-- 'variorumlaw10.PlaceKeeps', WHERE WHAT IT READS IS OF BULK AT MOST 1048576: true; the input reads as it did. -/
def placeKeepsUptoRow : OpenClaim := { program := "ythocalfgeaclgaa", sum := "13cc4a14b791ea71d73032b36ab51ff6e9d2f2ae0f7b33588bb00579510b1c10", func := "variorum/variorumlaw10.PlaceKeeps", spec := "placeKeeps", inPlace := ["internal/abi.NoEscape"], unfollowed := true, recurses := true, apart := false, narrowed := true }
def PlaceKeepsUptoSaid : Prop := placeKeepsUptoRow.holds Try.pinned (OpenSpec.upto placeKeepsSpec)

/-- 'variorumlaw07.RunBetween', WHERE WHAT IT READS IS OF BULK AT MOST 1048576: true; the input reads as it did. -/
def runBetweenUptoRow : OpenClaim := { program := "ythocalfgeaclgaa", sum := "13cc4a14b791ea71d73032b36ab51ff6e9d2f2ae0f7b33588bb00579510b1c10", func := "variorum/variorumlaw07.RunBetween", spec := "runBetween", inPlace := ["internal/abi.NoEscape"], unfollowed := true, recurses := true, apart := false, narrowed := true }
def RunBetweenUptoSaid : Prop := runBetweenUptoRow.holds Try.pinned (OpenSpec.upto runBetweenSpec)

/-- 'variorumlaw07.RunFolds', WHERE WHAT IT READS IS OF BULK AT MOST 1048576: true; the input reads as it did. -/
def runFoldsUptoRow : OpenClaim := { program := "ythocalfgeaclgaa", sum := "13cc4a14b791ea71d73032b36ab51ff6e9d2f2ae0f7b33588bb00579510b1c10", func := "variorum/variorumlaw07.RunFolds", spec := "runFolds", inPlace := ["internal/abi.NoEscape"], unfollowed := true, recurses := true, apart := false, narrowed := true }
def RunFoldsUptoSaid : Prop := runFoldsUptoRow.holds Try.pinned (OpenSpec.upto runFoldsSpec)

/-- 'variorumlaw07.RunBack', WHERE WHAT IT READS IS OF BULK AT MOST 1048576: true; the input reads as it did. -/
def runBackUptoRow : OpenClaim := { program := "ythocalfgeaclgaa", sum := "13cc4a14b791ea71d73032b36ab51ff6e9d2f2ae0f7b33588bb00579510b1c10", func := "variorum/variorumlaw07.RunBack", spec := "runBack", inPlace := ["internal/abi.NoEscape"], unfollowed := true, recurses := true, apart := false, narrowed := true }
def RunBackUptoSaid : Prop := runBackUptoRow.holds Try.pinned (OpenSpec.upto runBackSpec)

end Rows
end Go.Proofs.Ythocalfgeaclgaa

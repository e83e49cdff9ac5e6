/-
  No cell of these rows narrows 'for every input' (looked for: loops, veiled, ifaces, maps, wideKeys, modest, calm, conditions, laid).
  DERIVED. THE GIVEN ROWS OF THIS SEAT. 10 by the template 'for every input the law returns true; each argument reads behind the call as it read before'; 0 by the template 'total and deterministic' (their statements: YtgefpgbofhcmdaaTotals.lean).
  GIVEN WITH THE SEED: the statements are not yours to turn. If you find one false, say at which input.
  Laid BY PROGRAM, IN A SANDBOX (cutbox-rows.mjs): the forced cells as the released guide's own fill.sh prints them over the translation 4df5e69289823eb4… (all of the seat's roots in one cut). By AI agents, Wed Nov 11 2026. No macro, syntax, notation, axiom, sorry.
-/
import Derived.Test.YtgefpgbofhcmdaaChecked
import GoSem.Claim
import GoSem.ClaimJoined
import GoSem.ClaimMapViews
import Derived.JoinedTies
import Derived.KernelRfl
namespace Go.Proofs.Ytgefpgbofhcmdaa
/- THE CELL 'sum', in the pinned program and in every row, IS THE sha256 OF THE DUMP (.gsa) THAT YtgefpgbofhcmdaaProg.lean LOADS. Nothing in Lean hashes anything: it is a label: what it is worth is what the hold of that sum in a sandbox is worth. -/
noncomputable def Try.pinned : Pinned := { name := "ytgefpgbofhcmdaa", sum := "4df5e69289823eb472d4675caa1d90111f6ab40c9708a03c491be9ce5371996e", checked := Try.checked }
namespace Rows
def none {H : Type} : Left H := { results := [], args := [] }

/-- 'variorumlaw02.Sum32Three': WHATEVER THE INPUT: true; the input reads as it did. -/
def sum32ThreeSpec : ChangeSpec := { name := "sum32Three", fn := fun _ => fun
  | [d1, d2, d3] => { results := [.lit (.bool true)], args := [d1, d2, d3] }
  | _ => none }
def sum32ThreeRow : OpenClaim := { program := "ytgefpgbofhcmdaa", sum := "4df5e69289823eb472d4675caa1d90111f6ab40c9708a03c491be9ce5371996e", func := "variorum/variorumlaw02.Sum32Three", spec := "sum32Three", apart := false }
def Sum32ThreeSaid : Prop := sum32ThreeRow.holds Try.pinned (OpenSpec.ofChange sum32ThreeSpec)

/-- ITS FALSE NEIGHBOUR: 'it returns false'. Refute it at one input. -/
def sum32ThreeWrong : ChangeSpec := { name := "sum32Three", fn := fun _ => fun
  | [d1, d2, d3] => { results := [.lit (.bool false)], args := [d1, d2, d3] }
  | _ => none }
def Sum32ThreeWrongFalsely : Prop := sum32ThreeRow.holds Try.pinned (OpenSpec.ofChange sum32ThreeWrong)

/-- 'variorumlaw02.Sum32Tells': WHATEVER THE INPUT: true; the input reads as it did. -/
def sum32TellsSpec : ChangeSpec := { name := "sum32Tells", fn := fun _ => fun
  | [d] => { results := [.lit (.bool true)], args := [d] }
  | _ => none }
def sum32TellsRow : OpenClaim := { program := "ytgefpgbofhcmdaa", sum := "4df5e69289823eb472d4675caa1d90111f6ab40c9708a03c491be9ce5371996e", func := "variorum/variorumlaw02.Sum32Tells", spec := "sum32Tells", apart := false }
def Sum32TellsSaid : Prop := sum32TellsRow.holds Try.pinned (OpenSpec.ofChange sum32TellsSpec)

/-- ITS FALSE NEIGHBOUR: 'it returns false'. Refute it at one input. -/
def sum32TellsWrong : ChangeSpec := { name := "sum32Tells", fn := fun _ => fun
  | [d] => { results := [.lit (.bool false)], args := [d] }
  | _ => none }
def Sum32TellsWrongFalsely : Prop := sum32TellsRow.holds Try.pinned (OpenSpec.ofChange sum32TellsWrong)

/-- 'variorumlaw02.Sum32Bursts': WHATEVER THE INPUT: true; the input reads as it did. -/
def sum32BurstsSpec : ChangeSpec := { name := "sum32Bursts", fn := fun _ => fun
  | [d1, d2, d3] => { results := [.lit (.bool true)], args := [d1, d2, d3] }
  | _ => none }
def sum32BurstsRow : OpenClaim := { program := "ytgefpgbofhcmdaa", sum := "4df5e69289823eb472d4675caa1d90111f6ab40c9708a03c491be9ce5371996e", func := "variorum/variorumlaw02.Sum32Bursts", spec := "sum32Bursts", apart := false }
def Sum32BurstsSaid : Prop := sum32BurstsRow.holds Try.pinned (OpenSpec.ofChange sum32BurstsSpec)

/-- ITS FALSE NEIGHBOUR: 'it returns false'. Refute it at one input. -/
def sum32BurstsWrong : ChangeSpec := { name := "sum32Bursts", fn := fun _ => fun
  | [d1, d2, d3] => { results := [.lit (.bool false)], args := [d1, d2, d3] }
  | _ => none }
def Sum32BurstsWrongFalsely : Prop := sum32BurstsRow.holds Try.pinned (OpenSpec.ofChange sum32BurstsWrong)

/-- 'variorumlaw02.Sum32Joins': WHATEVER THE INPUT: true; the input reads as it did. -/
def sum32JoinsSpec : ChangeSpec := { name := "sum32Joins", fn := fun _ => fun
  | [d1, d2, d3, d4, d5] => { results := [.lit (.bool true)], args := [d1, d2, d3, d4, d5] }
  | _ => none }
def sum32JoinsRow : OpenClaim := { program := "ytgefpgbofhcmdaa", sum := "4df5e69289823eb472d4675caa1d90111f6ab40c9708a03c491be9ce5371996e", func := "variorum/variorumlaw02.Sum32Joins", spec := "sum32Joins", unfollowed := true, recurses := true, apart := false }
def Sum32JoinsSaid : Prop := sum32JoinsRow.holds Try.pinned (OpenSpec.ofChange sum32JoinsSpec)

/-- ITS FALSE NEIGHBOUR: 'it returns false'. Refute it at one input. -/
def sum32JoinsWrong : ChangeSpec := { name := "sum32Joins", fn := fun _ => fun
  | [d1, d2, d3, d4, d5] => { results := [.lit (.bool false)], args := [d1, d2, d3, d4, d5] }
  | _ => none }
def Sum32JoinsWrongFalsely : Prop := sum32JoinsRow.holds Try.pinned (OpenSpec.ofChange sum32JoinsWrong)

/-- 'variorumlaw01.VaryPuts': WHATEVER THE INPUT: true; the input reads as it did. -/
def varyPutsSpec : ChangeSpec := { name := "varyPuts", fn := fun _ => fun
  | [d1, d2, d3] => { results := [.lit (.bool true)], args := [d1, d2, d3] }
  | _ => none }
def varyPutsRow : OpenClaim := { program := "ytgefpgbofhcmdaa", sum := "4df5e69289823eb472d4675caa1d90111f6ab40c9708a03c491be9ce5371996e", func := "variorum/variorumlaw01.VaryPuts", spec := "varyPuts", unfollowed := true, recurses := true, apart := false }
def VaryPutsSaid : Prop := varyPutsRow.holds Try.pinned (OpenSpec.ofChange varyPutsSpec)

/-- ITS FALSE NEIGHBOUR: 'it returns false'. Refute it at one input. -/
def varyPutsWrong : ChangeSpec := { name := "varyPuts", fn := fun _ => fun
  | [d1, d2, d3] => { results := [.lit (.bool false)], args := [d1, d2, d3] }
  | _ => none }
def VaryPutsWrongFalsely : Prop := varyPutsRow.holds Try.pinned (OpenSpec.ofChange varyPutsWrong)

/-- 'variorumlaw01.VaryApart': WHATEVER THE INPUT: true; the input reads as it did. -/
def varyApartSpec : ChangeSpec := { name := "varyApart", fn := fun _ => fun
  | [d1, d2] => { results := [.lit (.bool true)], args := [d1, d2] }
  | _ => none }
def varyApartRow : OpenClaim := { program := "ytgefpgbofhcmdaa", sum := "4df5e69289823eb472d4675caa1d90111f6ab40c9708a03c491be9ce5371996e", func := "variorum/variorumlaw01.VaryApart", spec := "varyApart", unfollowed := true, recurses := true, apart := false }
def VaryApartSaid : Prop := varyApartRow.holds Try.pinned (OpenSpec.ofChange varyApartSpec)

/-- ITS FALSE NEIGHBOUR: 'it returns false'. Refute it at one input. -/
def varyApartWrong : ChangeSpec := { name := "varyApart", fn := fun _ => fun
  | [d1, d2] => { results := [.lit (.bool false)], args := [d1, d2] }
  | _ => none }
def VaryApartWrongFalsely : Prop := varyApartRow.holds Try.pinned (OpenSpec.ofChange varyApartWrong)

/-- 'variorumlaw01.VaryOne': WHATEVER THE INPUT: true; the input reads as it did. -/
def varyOneSpec : ChangeSpec := { name := "varyOne", fn := fun _ => fun
  | [d] => { results := [.lit (.bool true)], args := [d] }
  | _ => none }
def varyOneRow : OpenClaim := { program := "ytgefpgbofhcmdaa", sum := "4df5e69289823eb472d4675caa1d90111f6ab40c9708a03c491be9ce5371996e", func := "variorum/variorumlaw01.VaryOne", spec := "varyOne", unfollowed := true, recurses := true, apart := false }
def VaryOneSaid : Prop := varyOneRow.holds Try.pinned (OpenSpec.ofChange varyOneSpec)

/-- ITS FALSE NEIGHBOUR: 'it returns false'. Refute it at one input. -/
def varyOneWrong : ChangeSpec := { name := "varyOne", fn := fun _ => fun
  | [d] => { results := [.lit (.bool false)], args := [d] }
  | _ => none }
def VaryOneWrongFalsely : Prop := varyOneRow.holds Try.pinned (OpenSpec.ofChange varyOneWrong)

/-- 'variorumlaw01.VaryBack': WHATEVER THE INPUT: true; the input reads as it did. -/
def varyBackSpec : ChangeSpec := { name := "varyBack", fn := fun _ => fun
  | [d1, d2, d3, d4] => { results := [.lit (.bool true)], args := [d1, d2, d3, d4] }
  | _ => none }
def varyBackRow : OpenClaim := { program := "ytgefpgbofhcmdaa", sum := "4df5e69289823eb472d4675caa1d90111f6ab40c9708a03c491be9ce5371996e", func := "variorum/variorumlaw01.VaryBack", spec := "varyBack", unfollowed := true, recurses := true, apart := false }
def VaryBackSaid : Prop := varyBackRow.holds Try.pinned (OpenSpec.ofChange varyBackSpec)

/-- ITS FALSE NEIGHBOUR: 'it returns false'. Refute it at one input. -/
def varyBackWrong : ChangeSpec := { name := "varyBack", fn := fun _ => fun
  | [d1, d2, d3, d4] => { results := [.lit (.bool false)], args := [d1, d2, d3, d4] }
  | _ => none }
def VaryBackWrongFalsely : Prop := varyBackRow.holds Try.pinned (OpenSpec.ofChange varyBackWrong)

/-- 'variorumlaw01.VaryReads': WHATEVER THE INPUT: true; the input reads as it did. -/
def varyReadsSpec : ChangeSpec := { name := "varyReads", fn := fun _ => fun
  | [d1, d2] => { results := [.lit (.bool true)], args := [d1, d2] }
  | _ => none }
def varyReadsRow : OpenClaim := { program := "ytgefpgbofhcmdaa", sum := "4df5e69289823eb472d4675caa1d90111f6ab40c9708a03c491be9ce5371996e", func := "variorum/variorumlaw01.VaryReads", spec := "varyReads", unfollowed := true, recurses := true, apart := false }
def VaryReadsSaid : Prop := varyReadsRow.holds Try.pinned (OpenSpec.ofChange varyReadsSpec)

/-- ITS FALSE NEIGHBOUR: 'it returns false'. Refute it at one input. -/
def varyReadsWrong : ChangeSpec := { name := "varyReads", fn := fun _ => fun
  | [d1, d2] => { results := [.lit (.bool false)], args := [d1, d2] }
  | _ => none }
def VaryReadsWrongFalsely : Prop := varyReadsRow.holds Try.pinned (OpenSpec.ofChange varyReadsWrong)

/-- 'variorumlaw01.VaryNobody': WHATEVER THE INPUT: true; the input reads as it did. -/
def varyNobodySpec : ChangeSpec := { name := "varyNobody", fn := fun _ => fun
  | [d] => { results := [.lit (.bool true)], args := [d] }
  | _ => none }
def varyNobodyRow : OpenClaim := { program := "ytgefpgbofhcmdaa", sum := "4df5e69289823eb472d4675caa1d90111f6ab40c9708a03c491be9ce5371996e", func := "variorum/variorumlaw01.VaryNobody", spec := "varyNobody", unfollowed := true, recurses := true, apart := false }
def VaryNobodySaid : Prop := varyNobodyRow.holds Try.pinned (OpenSpec.ofChange varyNobodySpec)

/-- ITS FALSE NEIGHBOUR: 'it returns false'. Refute it at one input. -/
def varyNobodyWrong : ChangeSpec := { name := "varyNobody", fn := fun _ => fun
  | [d] => { results := [.lit (.bool false)], args := [d] }
  | _ => none }
def VaryNobodyWrongFalsely : Prop := varyNobodyRow.holds Try.pinned (OpenSpec.ofChange varyNobodyWrong)

/- THE SECOND FORM. 'bulk': how many values and letters a reading holds, each counted each time it is reached (what is shared counts as often as it is met; a slice's spare places count too). A statement '..UptoSaid' is the law's where the arguments, and the package variables that the reading takes, are together of bulk at most 1048576: NARROWER than '..Said'. Prove '..Said' where nothing that the law and all that it calls make is longer than what came in: it says more and counts as full. Else prove '..UptoSaid'. A law counts once. -/
mutual
def uptoBulk {H : Type} : DataW H → Nat
  | .lit (.string bytes) => bytes.length + 1
  | .lit _ => 1
  | .nil => 1
  | .ptr d => uptoBulk d + 1
  | .slice elems spare => uptoBulkAll elems + uptoBulkAll spare + 1
  | .agg parts => uptoBulkAll parts + 1
  | .iface _ d => uptoBulk d + 1
  | .map entries => uptoBulkEntries entries + 1
  | .held _ => 1
def uptoBulkAll {H : Type} : List (DataW H) → Nat
  | [] => 0
  | d :: r => uptoBulk d + uptoBulkAll r
def uptoBulkEntries {H : Type} : List (Lit × DataW H) → Nat
  | [] => 0
  | x :: r => uptoBulkEntry x + uptoBulkEntries r
def uptoBulkEntry {H : Type} : Lit × DataW H → Nat
  | (.string bytes, d) => bytes.length + uptoBulk d + 1
  | (_, d) => uptoBulk d + 1
 end
def uptoSmall : (H : Type) → List (DataW H) → Bool := fun _ ds => decide (uptoBulkAll ds ≤ 1048576)
def OpenSpec.upto (s : _root_.Go.ChangeSpec) : _root_.Go.OpenSpec := { _root_.Go.OpenSpec.ofChange s with cond := some uptoSmall }

/-- 'variorumlaw02.Sum32Three', WHERE WHAT IT READS IS OF BULK AT MOST 1048576: true; the input reads as it did. -/
def sum32ThreeUptoRow : OpenClaim := { program := "ytgefpgbofhcmdaa", sum := "4df5e69289823eb472d4675caa1d90111f6ab40c9708a03c491be9ce5371996e", func := "variorum/variorumlaw02.Sum32Three", spec := "sum32Three", apart := false, narrowed := true }
def Sum32ThreeUptoSaid : Prop := sum32ThreeUptoRow.holds Try.pinned (OpenSpec.upto sum32ThreeSpec)

/-- 'variorumlaw02.Sum32Tells', WHERE WHAT IT READS IS OF BULK AT MOST 1048576: true; the input reads as it did. -/
def sum32TellsUptoRow : OpenClaim := { program := "ytgefpgbofhcmdaa", sum := "4df5e69289823eb472d4675caa1d90111f6ab40c9708a03c491be9ce5371996e", func := "variorum/variorumlaw02.Sum32Tells", spec := "sum32Tells", apart := false, narrowed := true }
def Sum32TellsUptoSaid : Prop := sum32TellsUptoRow.holds Try.pinned (OpenSpec.upto sum32TellsSpec)

/-- 'variorumlaw02.Sum32Bursts', WHERE WHAT IT READS IS OF BULK AT MOST 1048576: true; the input reads as it did. -/
def sum32BurstsUptoRow : OpenClaim := { program := "ytgefpgbofhcmdaa", sum := "4df5e69289823eb472d4675caa1d90111f6ab40c9708a03c491be9ce5371996e", func := "variorum/variorumlaw02.Sum32Bursts", spec := "sum32Bursts", apart := false, narrowed := true }
def Sum32BurstsUptoSaid : Prop := sum32BurstsUptoRow.holds Try.pinned (OpenSpec.upto sum32BurstsSpec)

/-- 'variorumlaw02.Sum32Joins', WHERE WHAT IT READS IS OF BULK AT MOST 1048576: true; the input reads as it did. -/
def sum32JoinsUptoRow : OpenClaim := { program := "ytgefpgbofhcmdaa", sum := "4df5e69289823eb472d4675caa1d90111f6ab40c9708a03c491be9ce5371996e", func := "variorum/variorumlaw02.Sum32Joins", spec := "sum32Joins", unfollowed := true, recurses := true, apart := false, narrowed := true }
def Sum32JoinsUptoSaid : Prop := sum32JoinsUptoRow.holds Try.pinned (OpenSpec.upto sum32JoinsSpec)

/-- 'variorumlaw01.VaryPuts', WHERE WHAT IT READS IS OF BULK AT MOST 1048576: true; the input reads as it did. -/
def varyPutsUptoRow : OpenClaim := { program := "ytgefpgbofhcmdaa", sum := "4df5e69289823eb472d4675caa1d90111f6ab40c9708a03c491be9ce5371996e", func := "variorum/variorumlaw01.VaryPuts", spec := "varyPuts", unfollowed := true, recurses := true, apart := false, narrowed := true }
def VaryPutsUptoSaid : Prop := varyPutsUptoRow.holds Try.pinned (OpenSpec.upto varyPutsSpec)

/-- 'variorumlaw01.VaryApart', WHERE WHAT IT READS IS OF BULK AT MOST 1048576: true; the input reads as it did. -/
def varyApartUptoRow : OpenClaim := { program := "ytgefpgbofhcmdaa", sum := "4df5e69289823eb472d4675caa1d90111f6ab40c9708a03c491be9ce5371996e", func := "variorum/variorumlaw01.VaryApart", spec := "varyApart", unfollowed := true, recurses := true, apart := false, narrowed := true }
def VaryApartUptoSaid : Prop := varyApartUptoRow.holds Try.pinned (OpenSpec.upto varyApartSpec)

/-- 'variorumlaw01.VaryOne', WHERE WHAT IT READS IS OF BULK AT MOST 1048576: true; the input reads as it did. -/
def varyOneUptoRow : OpenClaim := { program := "ytgefpgbofhcmdaa", sum := "4df5e69289823eb472d4675caa1d90111f6ab40c9708a03c491be9ce5371996e", func := "variorum/variorumlaw01.VaryOne", spec := "varyOne", unfollowed := true, recurses := true, apart := false, narrowed := true }
def VaryOneUptoSaid : Prop := varyOneUptoRow.holds Try.pinned (OpenSpec.upto varyOneSpec)

/-- 'variorumlaw01.VaryBack', WHERE WHAT IT READS IS OF BULK AT MOST 1048576: true; the input reads as it did. -/
def varyBackUptoRow : OpenClaim := { program := "ytgefpgbofhcmdaa", sum := "4df5e69289823eb472d4675caa1d90111f6ab40c9708a03c491be9ce5371996e", func := "variorum/variorumlaw01.VaryBack", spec := "varyBack", unfollowed := true, recurses := true, apart := false, narrowed := true }
def VaryBackUptoSaid : Prop := varyBackUptoRow.holds Try.pinned (OpenSpec.upto varyBackSpec)

/-- 'variorumlaw01.VaryReads', WHERE WHAT IT READS IS OF BULK AT MOST 1048576: true; the input reads as it did. -/
def varyReadsUptoRow : OpenClaim := { program := "ytgefpgbofhcmdaa", sum := "4df5e69289823eb472d4675caa1d90111f6ab40c9708a03c491be9ce5371996e", func := "variorum/variorumlaw01.VaryReads", spec := "varyReads", unfollowed := true, recurses := true, apart := false, narrowed := true }
def VaryReadsUptoSaid : Prop := varyReadsUptoRow.holds Try.pinned (OpenSpec.upto varyReadsSpec)

/-- 'variorumlaw01.VaryNobody', WHERE WHAT IT READS IS OF BULK AT MOST 1048576: true; the input reads as it did. -/
def varyNobodyUptoRow : OpenClaim := { program := "ytgefpgbofhcmdaa", sum := "4df5e69289823eb472d4675caa1d90111f6ab40c9708a03c491be9ce5371996e", func := "variorum/variorumlaw01.VaryNobody", spec := "varyNobody", unfollowed := true, recurses := true, apart := false, narrowed := true }
def VaryNobodyUptoSaid : Prop := varyNobodyUptoRow.holds Try.pinned (OpenSpec.upto varyNobodySpec)

end Rows
end Go.Proofs.Ytgefpgbofhcmdaa

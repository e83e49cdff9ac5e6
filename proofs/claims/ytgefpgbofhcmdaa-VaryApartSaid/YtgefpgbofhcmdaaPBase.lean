-- Written by wip/myprint.py of this session, over the kit's print.py: a Lean function for each Go function, and the proof that the code comes to it.
import Derived.Test.YtgefpgbofhcmdaaProg
import Derived.Below
import Derived.Deep.Draws
import Derived.Deep.AppendLies
import Derived.Maps.AppendAt
import Derived.OwnWalk
import Derived.Laws.BytesArg
import Derived.Laws.MakeOwn
import Derived.Laws.OwnMore
import Derived.Deep.OwnRows
import Derived.Tactics
import Derived.Lib.ConvBytes
import Derived.Laws.Slices
import Derived.WalkKit
import Derived.KernelRfl
import Derived.RowKit3
import Derived.Deep.LoopGhost
import Derived.Deep.QuietTactic
import Derived.BigQuiet
import Derived.WideLaws
import Derived.Deep.DeepCutAuto
import Derived.Deep.CutBlock
import Derived.Deep.RegionHeld3
import Derived.Laws.Rows
import Derived.Lib.AppendStr
import Derived.ArgAppend
import Derived.Laws.IdiomCopy
import Derived.OrdersHeld
import Derived.Laws.BitsLemmas
import Derived.RowKit
import Derived.Test.YtgefpgbofhcmdaaWWords
import Derived.Test.YtgefpgbofhcmdaaWLast
import Derived.Test.YtgefpgbofhcmdaaWTab
import Derived.Test.YtgefpgbofhcmdaaWFour
import Derived.Test.YtgefpgbofhcmdaaWQPut
import Derived.Test.YtgefpgbofhcmdaaWApart
import Derived.Test.YtgefpgbofhcmdaaWArr
import Derived.Test.YtgefpgbofhcmdaaWZeros
import Derived.Test.YtgefpgbofhcmdaaWFoot
import Derived.Test.YtgefpgbofhcmdaaWKept
import Derived.Test.YtgefpgbofhcmdaaWShare
import Derived.Test.YtgefpgbofhcmdaaWN
import Derived.Test.YtgefpgbofhcmdaaWFootNe
import Derived.Test.YtgefpgbofhcmdaaWAt
import Derived.Test.YtgefpgbofhcmdaaWEqStruct
import Derived.Test.YtgefpgbofhcmdaaWRepsOne
import Derived.Test.YtgefpgbofhcmdaaWInv
import Derived.Test.YtgefpgbofhcmdaaWInvWords
import Derived.Test.YtgefpgbofhcmdaaWGuard
import Derived.Test.YtgefpgbofhcmdaaWNEv
import Derived.Test.YtgefpgbofhcmdaaWMore
namespace Go.Proofs.Ytgefpgbofhcmdaa.P
open Go.RowKit Go.Proofs.YtgefpgbofhcmdaaW.PrintWords Go.Proofs.YtgefpgbofhcmdaaW.PrintLast Go.Proofs.YtgefpgbofhcmdaaW.PrintMore
attribute [local go_sem] max2_int min2_int max_two min_two max_three min_three max_four min_four   -- for this text's walks alone
set_option linter.unusedVariables false
set_option linter.unusedSimpArgs false



def errW : Option Int → Value
  | none => .nilIface
  | some c => .iface 0 (.int .i64 c)
theorem errW_none : errW none = .nilIface := rfl
theorem errW_some (c : Int) : errW (some c) = .iface 0 (.int .i64 c) := rfl

theorem V_string {P : Program} {w : World} {base e : Nat} {ok : Nat → Prop} {src dst e2 : TypeId} {v : Value} {xs : List Int} (hs : P.underlying src = some (.slice e2)) (he : P.underlying e2 = some (.int .u8)) (hd : P.underlying dst = some .string) (h : Kd.V (Kd.int .u8) e w base ok v xs) : (convert src dst v).run P w = .ok (.string (strOfNums xs)) w := by
  obtain ⟨A, c, rfl, _, hF⟩ := h
  exact Kd.C_string hs he hd (Kd.F_now hF)
theorem info5 : (Try.prog.info? 5).map (fun i => (i.zero, i.size, i.bytes)) = some (some (.int .u8 0), 1, 1) := by kernel_rfl
-- the values' own types
def rd_L2 (xs : List (List Int)) (i : Int) : (List Int) := xs.getD i.toNat ([] : List Int)
theorem at_L2 {w : World} {A : Option Addr} {n : Nat} {xs : List (List Int)} (h : Kd.C (Kd.slice 5 (Kd.int .u8)) w A n xs) (i : Int) (h0 : 0 ≤ i) (h1 : i < n) : ∃ ad A0 c0, A = some ad ∧ w.cell? (ad.add i.toNat) = some (.slice A0 (rd_L2 xs i).length c0) ∧ (rd_L2 xs i).length ≤ c0 ∧ (Kd.int .u8).C w A0 (rd_L2 xs i).length (rd_L2 xs i) := by
  obtain ⟨ad, c, e, _, hK, hc0⟩ := Kd.C_get h ([] : List Int) i h0 h1
  have hc : ∀ j u, c[j]? = some u → w.cell? (ad.add (i.toNat * 1 + j)) = some u := hc0
  obtain ⟨A0, c0, rfl, l0, g0⟩ := hK
  exact ⟨ad, A0, c0, e, by have hq := hc 0 _ rfl; rwa [Nat.mul_one, Nat.add_zero] at hq, l0, g0⟩

end Go.Proofs.Ytgefpgbofhcmdaa.P

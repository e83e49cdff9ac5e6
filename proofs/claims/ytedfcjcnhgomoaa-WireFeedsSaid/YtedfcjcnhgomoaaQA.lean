import Derived.Test.YtedfcjcnhgomoaaProg
import Derived.Below
import Derived.Deep.Draws
import Derived.Deep.AppendLies
import Derived.Maps.AppendAt
import Derived.OwnWalk
import Derived.Laws.BytesArg
import Derived.Laws.MakeOwn
import Derived.Laws.OwnMore
import Derived.Deep.OwnRows
import Derived.Tactics
import Derived.Lib.ConvBytes
import Derived.Laws.Slices
import Derived.WalkKit
import Derived.KernelRfl
import Derived.RowKit3
import Derived.Deep.LoopGhost
import Derived.Deep.QuietTactic
import Derived.BigQuiet
import Derived.WideLaws
import Derived.Deep.DeepCutAuto
import Derived.Deep.CutBlock
import Derived.Deep.RegionHeld3
import Derived.Laws.Rows
import Derived.Lib.AppendStr
import Derived.ArgAppend
import Derived.Laws.IdiomCopy
import Derived.OrdersHeld
import Derived.Laws.BitsLemmas
import Derived.RowKit
import Derived.Test.YtedfcjcnhgomoaaWWords
import Derived.Test.YtedfcjcnhgomoaaWLast
import Derived.Test.YtedfcjcnhgomoaaWTab
import Derived.Test.YtedfcjcnhgomoaaWFour
import Derived.Test.YtedfcjcnhgomoaaWQPut
import Derived.Test.YtedfcjcnhgomoaaWApart
import Derived.Test.YtedfcjcnhgomoaaWArr
import Derived.Test.YtedfcjcnhgomoaaWZeros
import Derived.Test.YtedfcjcnhgomoaaWFoot
import Derived.Test.YtedfcjcnhgomoaaWKept
import Derived.Test.YtedfcjcnhgomoaaWShare
import Derived.Test.YtedfcjcnhgomoaaWN
import Derived.Test.YtedfcjcnhgomoaaWFootNe
import Derived.Test.YtedfcjcnhgomoaaWAt
import Derived.Test.YtedfcjcnhgomoaaWEqStruct
import Derived.Test.YtedfcjcnhgomoaaWRepsOne
import Derived.Test.YtedfcjcnhgomoaaWInv
import Derived.Test.YtedfcjcnhgomoaaWInvWords
import Derived.Test.YtedfcjcnhgomoaaWGuard
import Derived.Test.YtedfcjcnhgomoaaWNEv
import Derived.Test.YtedfcjcnhgomoaaWMore
import Derived.Lib.SlBytesConst
import Derived.Lib.SmallJoins
import Derived.Deep.Upon
import Derived.Lib.Bytes
import GoSem.Claim
import Derived.Outline
-- MERGED YtedfcjcnhgomoaaPBase
section
-- Written by wip/myprint.py of this session, over the kit's print.py: a Lean function for each Go function, and the proof that the code comes to it.
namespace Go.Proofs.Ytedfcjcnhgomoaa.P
open Go.RowKit Go.Proofs.YtedfcjcnhgomoaaW.PrintWords Go.Proofs.YtedfcjcnhgomoaaW.PrintLast Go.Proofs.YtedfcjcnhgomoaaW.PrintMore
attribute [local go_sem] max2_int min2_int max_two min_two max_three min_three max_four min_four   -- for this text's walks alone
set_option linter.unusedVariables false
set_option linter.unusedSimpArgs false



def errW : Option Int → Value
  | none => .nilIface
  | some c => .iface 0 (.int .i64 c)
theorem errW_none : errW none = .nilIface := rfl
theorem errW_some (c : Int) : errW (some c) = .iface 0 (.int .i64 c) := rfl

theorem V_string {P : Program} {w : World} {base e : Nat} {ok : Nat → Prop} {src dst e2 : TypeId} {v : Value} {xs : List Int} (hs : P.underlying src = some (.slice e2)) (he : P.underlying e2 = some (.int .u8)) (hd : P.underlying dst = some .string) (h : Kd.V (Kd.int .u8) e w base ok v xs) : (convert src dst v).run P w = .ok (.string (strOfNums xs)) w := by
  obtain ⟨A, c, rfl, _, hF⟩ := h
  exact Kd.C_string hs he hd (Kd.F_now hF)
theorem info5 : (Try.prog.info? 5).map (fun i => (i.zero, i.size, i.bytes)) = some (some (.int .u8 0), 1, 1) := by kernel_rfl
theorem info23 : (Try.prog.info? 23).map (fun i => (i.zero, i.size, i.bytes)) = some (some (.agg #[(.int .i64 0), (.int .i64 0), (.int .i64 0), (.string ⟨#[]⟩)]), 4, 40) := by kernel_rfl
theorem info85 : (Try.prog.info? 85).map (fun i => (i.zero, i.size, i.bytes)) = some (some (.agg #[(.int .i64 0), (.string ⟨#[]⟩), (.int .i64 0)]), 3, 32) := by kernel_rfl
theorem info92 : (Try.prog.info? 92).map (fun i => (i.zero, i.size, i.bytes)) = some (some (.int .i64 0), 1, 8) := by kernel_rfl
theorem info104 : (Try.prog.info? 104).map (fun i => (i.zero, i.size, i.bytes)) = some (some (.agg #[(.int .i64 0), (.int .i64 0), (.int .i64 0)]), 3, 24) := by kernel_rfl
-- the values' own types
def rd_L1 (xs : List (List Int)) (i : Int) : (List Int) := xs.getD i.toNat ([] : List Int)
theorem at_L1 {w : World} {A : Option Addr} {n : Nat} {xs : List (List Int)} (h : Kd.C (Kd.slice 5 (Kd.int .u8)) w A n xs) (i : Int) (h0 : 0 ≤ i) (h1 : i < n) : ∃ ad A0 c0, A = some ad ∧ w.cell? (ad.add i.toNat) = some (.slice A0 (rd_L1 xs i).length c0) ∧ (rd_L1 xs i).length ≤ c0 ∧ (Kd.int .u8).C w A0 (rd_L1 xs i).length (rd_L1 xs i) := by
  obtain ⟨ad, c, e, _, hK, hc0⟩ := Kd.C_get h ([] : List Int) i h0 h1
  have hc : ∀ j u, c[j]? = some u → w.cell? (ad.add (i.toNat * 1 + j)) = some u := hc0
  obtain ⟨A0, c0, rfl, l0, g0⟩ := hK
  exact ⟨ad, A0, c0, e, by have hq := hc 0 _ rfl; rwa [Nat.mul_one, Nat.add_zero] at hq, l0, g0⟩

/-! #### struct type 85 -/
structure S85 where
  f0 : Int
  f1 : ByteArray
  f2 : Int
def z85 : S85 := ⟨(0 : Int), (⟨#[]⟩ : ByteArray), (0 : Int)⟩
def k85 : Kd S85 := Kd.iso (Kd.pair (Kd.int .i64) (Kd.pair Kd.string (Kd.int .i64))) (fun x : S85 => (x.f0, x.f1, x.f2))
theorem k85_heap : Kd.Heap k85 := Kd.heap_iso _ (Kd.heap_pair (Kd.heap_int .i64) (Kd.heap_pair Kd.heap_string (Kd.heap_int .i64)))
theorem k85_open {w : World} {x : S85} {cs : List Value} (h : k85.K w x cs) : cs = [.int .i64 x.f0, .string x.f1, .int .i64 x.f2] := by
  obtain ⟨_, _, rfl, rfl, ⟨_, _, rfl, rfl, rfl⟩⟩ := h
  exact rfl
theorem k85_openM {w : World} {base : Nat} {ok : Nat → Prop} {x : S85} {cs : List Value} (h : k85.M w base ok x cs) : cs = [.int .i64 x.f0, .string x.f1, .int .i64 x.f2] := by
  obtain ⟨_, _, rfl, rfl, ⟨_, _, rfl, rfl, rfl⟩⟩ := h
  exact rfl
theorem k85_mk (w : World) (x : S85)  : k85.K w x [.int .i64 x.f0, .string x.f1, .int .i64 x.f2] := ⟨[.int .i64 x.f0], [.string x.f1, .int .i64 x.f2], rfl, rfl, ⟨[.string x.f1], [.int .i64 x.f2], rfl, rfl, rfl⟩⟩
theorem k85_mkM (w : World) (base : Nat) (ok : Nat → Prop) (x : S85)  : k85.M w base ok x [.int .i64 x.f0, .string x.f1, .int .i64 x.f2] := ⟨[.int .i64 x.f0], [.string x.f1, .int .i64 x.f2], rfl, rfl, ⟨[.string x.f1], [.int .i64 x.f2], rfl, rfl, rfl⟩⟩
theorem k85_mkF (W : World) (ok : Nat → Prop) (x : S85) : Kd.FK k85 W ok x [.int .i64 x.f0, .string x.f1, .int .i64 x.f2] := fun W2 _ => k85_mk W2 x
def rd_T85 (xs : List S85) (i : Int) : S85 := xs.getD i.toNat z85
theorem at_T85 {w : World} {A : Option Addr} {n : Nat} {xs : List S85} (h : Kd.C k85 w A n xs) (i : Int) (h0 : 0 ≤ i) (h1 : i < n) : ∃ ad , A = some ad ∧ w.cell? (ad.add (i.toNat * 3)) = some (.int .i64 (rd_T85 xs i).f0) ∧ w.cell? ⟨(ad.add (i.toNat * 3)).block, (ad.add (i.toNat * 3)).off + 1, none⟩ = some (.string (rd_T85 xs i).f1) ∧ w.cell? ⟨(ad.add (i.toNat * 3)).block, (ad.add (i.toNat * 3)).off + 2, none⟩ = some (.int .i64 (rd_T85 xs i).f2) := by
  obtain ⟨ad, c, e, _, hK, hc0⟩ := Kd.C_get h z85 i h0 h1
  have hc : ∀ j u, c[j]? = some u → w.cell? (ad.add (i.toNat * 3 + j)) = some u := hc0
  obtain rfl := k85_open hK
  exact ⟨ad, e, hc 0 _ rfl, by rw [← add_field _ _ 1 (by omega)]; exact hc 1 _ rfl, by rw [← add_field _ _ 2 (by omega)]; exact hc 2 _ rfl⟩

/-! #### struct type 102 -/
structure S102 where
  f0 : Int
  f1 : Int
def z102 : S102 := ⟨(0 : Int), (0 : Int)⟩
def k102 : Kd S102 := Kd.iso (Kd.pair (Kd.int .i64) (Kd.int .i64)) (fun x : S102 => (x.f0, x.f1))
theorem k102_heap : Kd.Heap k102 := Kd.heap_iso _ (Kd.heap_pair (Kd.heap_int .i64) (Kd.heap_int .i64))
theorem k102_open {w : World} {x : S102} {cs : List Value} (h : k102.K w x cs) : cs = [.int .i64 x.f0, .int .i64 x.f1] := by
  obtain ⟨_, _, rfl, rfl, rfl⟩ := h
  exact rfl
theorem k102_openM {w : World} {base : Nat} {ok : Nat → Prop} {x : S102} {cs : List Value} (h : k102.M w base ok x cs) : cs = [.int .i64 x.f0, .int .i64 x.f1] := by
  obtain ⟨_, _, rfl, rfl, rfl⟩ := h
  exact rfl
theorem k102_mk (w : World) (x : S102)  : k102.K w x [.int .i64 x.f0, .int .i64 x.f1] := ⟨[.int .i64 x.f0], [.int .i64 x.f1], rfl, rfl, rfl⟩
theorem k102_mkM (w : World) (base : Nat) (ok : Nat → Prop) (x : S102)  : k102.M w base ok x [.int .i64 x.f0, .int .i64 x.f1] := ⟨[.int .i64 x.f0], [.int .i64 x.f1], rfl, rfl, rfl⟩
theorem k102_mkF (W : World) (ok : Nat → Prop) (x : S102) : Kd.FK k102 W ok x [.int .i64 x.f0, .int .i64 x.f1] := fun W2 _ => k102_mk W2 x
def rd_T102 (xs : List S102) (i : Int) : S102 := xs.getD i.toNat z102
theorem at_T102 {w : World} {A : Option Addr} {n : Nat} {xs : List S102} (h : Kd.C k102 w A n xs) (i : Int) (h0 : 0 ≤ i) (h1 : i < n) : ∃ ad , A = some ad ∧ w.cell? (ad.add (i.toNat * 2)) = some (.int .i64 (rd_T102 xs i).f0) ∧ w.cell? ⟨(ad.add (i.toNat * 2)).block, (ad.add (i.toNat * 2)).off + 1, none⟩ = some (.int .i64 (rd_T102 xs i).f1) := by
  obtain ⟨ad, c, e, _, hK, hc0⟩ := Kd.C_get h z102 i h0 h1
  have hc : ∀ j u, c[j]? = some u → w.cell? (ad.add (i.toNat * 2 + j)) = some u := hc0
  obtain rfl := k102_open hK
  exact ⟨ad, e, hc 0 _ rfl, by rw [← add_field _ _ 1 (by omega)]; exact hc 1 _ rfl⟩

/-! #### struct type 104 -/
structure S104 where
  f0 : S102
  f1 : Int
def z104 : S104 := ⟨z102, (0 : Int)⟩
def k104 : Kd S104 := Kd.iso (Kd.pair k102 (Kd.int .i64)) (fun x : S104 => (x.f0, x.f1))
theorem k104_heap : Kd.Heap k104 := Kd.heap_iso _ (Kd.heap_pair k102_heap (Kd.heap_int .i64))
theorem k104_open {w : World} {x : S104} {cs : List Value} (h : k104.K w x cs) : cs = [.int .i64 x.f0.f0, .int .i64 x.f0.f1, .int .i64 x.f1] := by
  obtain ⟨_, _, rfl, s0, rfl⟩ := h
  obtain rfl := k102_open s0
  exact rfl
theorem k104_openM {w : World} {base : Nat} {ok : Nat → Prop} {x : S104} {cs : List Value} (h : k104.M w base ok x cs) : cs = [.int .i64 x.f0.f0, .int .i64 x.f0.f1, .int .i64 x.f1] := by
  obtain ⟨_, _, rfl, s0, rfl⟩ := h
  obtain rfl := k102_openM s0
  exact rfl
theorem k104_mk (w : World) (x : S104)  : k104.K w x [.int .i64 x.f0.f0, .int .i64 x.f0.f1, .int .i64 x.f1] := ⟨[.int .i64 x.f0.f0, .int .i64 x.f0.f1], [.int .i64 x.f1], rfl, (k102_mk w x.f0 ), rfl⟩
theorem k104_mkM (w : World) (base : Nat) (ok : Nat → Prop) (x : S104)  : k104.M w base ok x [.int .i64 x.f0.f0, .int .i64 x.f0.f1, .int .i64 x.f1] := ⟨[.int .i64 x.f0.f0, .int .i64 x.f0.f1], [.int .i64 x.f1], rfl, (k102_mkM w base ok x.f0 ), rfl⟩
theorem k104_mkF (W : World) (ok : Nat → Prop) (x : S104) : Kd.FK k104 W ok x [.int .i64 x.f0.f0, .int .i64 x.f0.f1, .int .i64 x.f1] := fun W2 _ => k104_mk W2 x
def rd_T104 (xs : List S104) (i : Int) : S104 := xs.getD i.toNat z104
theorem at_T104 {w : World} {A : Option Addr} {n : Nat} {xs : List S104} (h : Kd.C k104 w A n xs) (i : Int) (h0 : 0 ≤ i) (h1 : i < n) : ∃ ad , A = some ad ∧ w.cell? (ad.add (i.toNat * 3)) = some (.int .i64 (rd_T104 xs i).f0.f0) ∧ w.cell? ⟨(ad.add (i.toNat * 3)).block, (ad.add (i.toNat * 3)).off + 1, none⟩ = some (.int .i64 (rd_T104 xs i).f0.f1) ∧ w.cell? ⟨(ad.add (i.toNat * 3)).block, (ad.add (i.toNat * 3)).off + 2, none⟩ = some (.int .i64 (rd_T104 xs i).f1) := by
  obtain ⟨ad, c, e, _, hK, hc0⟩ := Kd.C_get h z104 i h0 h1
  have hc : ∀ j u, c[j]? = some u → w.cell? (ad.add (i.toNat * 3 + j)) = some u := hc0
  obtain rfl := k104_open hK
  exact ⟨ad, e, hc 0 _ rfl, by rw [← add_field _ _ 1 (by omega)]; exact hc 1 _ rfl, by rw [← add_field _ _ 2 (by omega)]; exact hc 2 _ rfl⟩

def rd_L8 (xs : List (List S85)) (i : Int) : (List S85) := xs.getD i.toNat ([] : List S85)
theorem at_L8 {w : World} {A : Option Addr} {n : Nat} {xs : List (List S85)} (h : Kd.C (Kd.slice 85 k85) w A n xs) (i : Int) (h0 : 0 ≤ i) (h1 : i < n) : ∃ ad A0 c0, A = some ad ∧ w.cell? (ad.add i.toNat) = some (.slice A0 (rd_L8 xs i).length c0) ∧ (rd_L8 xs i).length ≤ c0 ∧ k85.C w A0 (rd_L8 xs i).length (rd_L8 xs i) := by
  obtain ⟨ad, c, e, _, hK, hc0⟩ := Kd.C_get h ([] : List S85) i h0 h1
  have hc : ∀ j u, c[j]? = some u → w.cell? (ad.add (i.toNat * 1 + j)) = some u := hc0
  obtain ⟨A0, c0, rfl, l0, g0⟩ := hK
  exact ⟨ad, A0, c0, e, by have hq := hc 0 _ rfl; rwa [Nat.mul_one, Nat.add_zero] at hq, l0, g0⟩

/-! #### struct type 23 -/
structure S23 where
  f0 : Int
  f1 : Int
  f2 : Int
  f3 : ByteArray
def z23 : S23 := ⟨(0 : Int), (0 : Int), (0 : Int), (⟨#[]⟩ : ByteArray)⟩
def k23 : Kd S23 := Kd.iso (Kd.pair (Kd.int .i64) (Kd.pair (Kd.int .i64) (Kd.pair (Kd.int .i64) Kd.string))) (fun x : S23 => (x.f0, x.f1, x.f2, x.f3))
theorem k23_heap : Kd.Heap k23 := Kd.heap_iso _ (Kd.heap_pair (Kd.heap_int .i64) (Kd.heap_pair (Kd.heap_int .i64) (Kd.heap_pair (Kd.heap_int .i64) Kd.heap_string)))
theorem k23_open {w : World} {x : S23} {cs : List Value} (h : k23.K w x cs) : cs = [.int .i64 x.f0, .int .i64 x.f1, .int .i64 x.f2, .string x.f3] := by
  obtain ⟨_, _, rfl, rfl, ⟨_, _, rfl, rfl, ⟨_, _, rfl, rfl, rfl⟩⟩⟩ := h
  exact rfl
theorem k23_openM {w : World} {base : Nat} {ok : Nat → Prop} {x : S23} {cs : List Value} (h : k23.M w base ok x cs) : cs = [.int .i64 x.f0, .int .i64 x.f1, .int .i64 x.f2, .string x.f3] := by
  obtain ⟨_, _, rfl, rfl, ⟨_, _, rfl, rfl, ⟨_, _, rfl, rfl, rfl⟩⟩⟩ := h
  exact rfl
theorem k23_mk (w : World) (x : S23)  : k23.K w x [.int .i64 x.f0, .int .i64 x.f1, .int .i64 x.f2, .string x.f3] := ⟨[.int .i64 x.f0], [.int .i64 x.f1, .int .i64 x.f2, .string x.f3], rfl, rfl, ⟨[.int .i64 x.f1], [.int .i64 x.f2, .string x.f3], rfl, rfl, ⟨[.int .i64 x.f2], [.string x.f3], rfl, rfl, rfl⟩⟩⟩
theorem k23_mkM (w : World) (base : Nat) (ok : Nat → Prop) (x : S23)  : k23.M w base ok x [.int .i64 x.f0, .int .i64 x.f1, .int .i64 x.f2, .string x.f3] := ⟨[.int .i64 x.f0], [.int .i64 x.f1, .int .i64 x.f2, .string x.f3], rfl, rfl, ⟨[.int .i64 x.f1], [.int .i64 x.f2, .string x.f3], rfl, rfl, ⟨[.int .i64 x.f2], [.string x.f3], rfl, rfl, rfl⟩⟩⟩
theorem k23_mkF (W : World) (ok : Nat → Prop) (x : S23) : Kd.FK k23 W ok x [.int .i64 x.f0, .int .i64 x.f1, .int .i64 x.f2, .string x.f3] := fun W2 _ => k23_mk W2 x
def rd_T23 (xs : List S23) (i : Int) : S23 := xs.getD i.toNat z23
theorem at_T23 {w : World} {A : Option Addr} {n : Nat} {xs : List S23} (h : Kd.C k23 w A n xs) (i : Int) (h0 : 0 ≤ i) (h1 : i < n) : ∃ ad , A = some ad ∧ w.cell? (ad.add (i.toNat * 4)) = some (.int .i64 (rd_T23 xs i).f0) ∧ w.cell? ⟨(ad.add (i.toNat * 4)).block, (ad.add (i.toNat * 4)).off + 1, none⟩ = some (.int .i64 (rd_T23 xs i).f1) ∧ w.cell? ⟨(ad.add (i.toNat * 4)).block, (ad.add (i.toNat * 4)).off + 2, none⟩ = some (.int .i64 (rd_T23 xs i).f2) ∧ w.cell? ⟨(ad.add (i.toNat * 4)).block, (ad.add (i.toNat * 4)).off + 3, none⟩ = some (.string (rd_T23 xs i).f3) := by
  obtain ⟨ad, c, e, _, hK, hc0⟩ := Kd.C_get h z23 i h0 h1
  have hc : ∀ j u, c[j]? = some u → w.cell? (ad.add (i.toNat * 4 + j)) = some u := hc0
  obtain rfl := k23_open hK
  exact ⟨ad, e, hc 0 _ rfl, by rw [← add_field _ _ 1 (by omega)]; exact hc 1 _ rfl, by rw [← add_field _ _ 2 (by omega)]; exact hc 2 _ rfl, by rw [← add_field _ _ 3 (by omega)]; exact hc 3 _ rfl⟩

end Go.Proofs.Ytedfcjcnhgomoaa.P
end
-- MERGED YtedfcjcnhgomoaaOwn
section
/- Small words of this session's own, beside the print's: rows that lie in a block that is known whole. -/
namespace Go.Proofs.Ytedfcjcnhgomoaa.Own
open Go.RowKit Go.Proofs.YtedfcjcnhgomoaaW.PrintWords Go.Proofs.YtedfcjcnhgomoaaW.PrintLast Go.Proofs.YtedfcjcnhgomoaaW.PrintMore

/-- A row whose elements' cells lie in a block that is known. -/
theorem C_of_block {α : Type} (d : Kd α) {W : World} {g : Nat} {C : Array Value} {t : TypeId} {fr : Nat × Nat} {xs : List α} {inner : List Value} (h : W.heap[g]? = some (.cells C t fr))
    (hr : Reps (d.K W) d.sz xs inner) (hC : ∀ (j : Nat) (u : Value), inner[j]? = some u → C[j]? = some u) (hm : xs.length ≤ 9223372036854775807) : Kd.C d W (some ⟨g, 0, none⟩) xs.length xs := by
  refine ⟨rfl, hm, fun _ => ⟨_, rfl, fun j p hj => ?_⟩⟩
  refine ⟨(inner.drop (j * d.sz)).take d.sz, ?_, hr.2 j p hj, fun i u hu => ?_⟩
  · exact d.K_len (hr.2 j p hj)
  · have hl : i < d.sz := by
      have := (List.getElem?_eq_some_iff.1 hu).1
      rw [List.length_take] at this
      omega
    rw [List.getElem?_take_of_lt hl, List.getElem?_drop] at hu
    rw [add_plain, World.cell?, h]
    simp only []
    exact hC _ _ hu

theorem reps_nums (k : IntKind) (W : World) (xs : List Int) : Reps ((Kd.int k).K W) (Kd.int k).sz xs (nums k xs) := by
  refine ⟨by rw [nums_length]; exact (Nat.mul_one _).symm, fun j p hj => ?_⟩
  show ((nums k xs).drop (j * 1)).take 1 = [.int k p]
  rw [Nat.mul_one]
  have h1 : (nums k xs)[j]? = some (.int k p) := by simp [nums, hj]
  obtain ⟨hl, he⟩ := List.getElem?_eq_some_iff.1 h1
  rw [List.drop_eq_getElem_cons hl, he]
  rfl

theorem C_of_nums (k : IntKind) {W : World} {g : Nat} {C : Array Value} {t : TypeId} {fr : Nat × Nat} (xs : List Int) (h : W.heap[g]? = some (.cells C t fr)) (hC : ∀ (j : Nat) (u : Value), (nums k xs)[j]? = some u → C[j]? = some u)
    (hm : xs.length ≤ 9223372036854775807) : Kd.C (Kd.int k) W (some ⟨g, 0, none⟩) xs.length xs := C_of_block (Kd.int k) h (reps_nums k W xs) hC hm

theorem C_of_lit (k : IntKind) {W : World} {g : Nat} {C : Array Value} {t : TypeId} {fr : Nat × Nat} (xs : List Int) (h : W.heap[g]? = some (.cells C t fr)) (hC : C.toList = nums k xs)
    (hm : xs.length ≤ 9223372036854775807) : Kd.C (Kd.int k) W (some ⟨g, 0, none⟩) xs.length xs := C_of_nums k xs h (fun j u hu => by rw [← hC, Array.getElem?_toList] at hu; exact hu) hm

theorem nums_at {k : IntKind} {xs : List Int} {j : Nat} {u : Value} (h : (nums k xs)[j]? = some u) : ∃ x, xs[j]? = some x ∧ u = .int k x := by
  rw [nums, List.getElem?_map] at h
  cases e : xs[j]? with
  | none => rw [e] at h; cases h
  | some x => rw [e] at h; exact ⟨x, rfl, (Option.some.inj h).symm⟩
/-- The cells of a row of numbers that is read. -/
theorem C_cells {k : IntKind} {w : World} {A : Option Addr} {n : Nat} {xs : List Int} (h : Kd.C (Kd.int k) w A n xs) (b : Addr) (hb : A = some b) (j : Nat) (u : Value) (hu : (nums k xs)[j]? = some u) : w.cell? (b.add j) = some u := by
  obtain ⟨x, hx, rfl⟩ := nums_at hu
  have hl := (List.getElem?_eq_some_iff.1 hx).1
  obtain ⟨ad, e, hc⟩ := h.2.2 (by rw [← h.1]; omega)
  rw [hb] at e
  obtain rfl := Option.some.inj e
  obtain ⟨c, _, hr, hcell⟩ := hc j x hx
  have hc1 : c = [.int k x] := hr
  subst hc1
  have := hcell 0 _ rfl
  rwa [show j * (Kd.int k).sz + 0 = j from Nat.mul_one j] at this
theorem C_none {k : IntKind} {w : World} {A : Option Addr} {n : Nat} {xs : List Int} (h : Kd.C (Kd.int k) w A n xs) (hA : A = none) : n = 0 := by
  rcases Nat.eq_zero_or_pos n with e | e
  · exact e
  · obtain ⟨ad, e2, _⟩ := h.2.2 e
    rw [hA] at e2; cases e2

theorem C_take {α : Type} {d : Kd α} {w : World} {A : Option Addr} {n : Nat} {xs : List α} (h : Kd.C d w A n xs) (m : Nat) (hm : m ≤ n) : Kd.C d w A m (xs.take m) := by
  refine ⟨by rw [List.length_take, h.1]; omega, by have := h.2.1; omega, fun hp => ?_⟩
  obtain ⟨ad, e, hc⟩ := h.2.2 (by omega)
  refine ⟨ad, e, fun j p hj => hc j p ?_⟩
  have hl : j < m := by
    have := (List.getElem?_eq_some_iff.1 hj).1
    rw [List.length_take] at this
    omega
  rwa [List.getElem?_take_of_lt hl] at hj
/-- An append of numbers to a slice that is full ('b[:len(b):len(b)]'): the answer lies in new memory. -/
theorem append_full {P : Program} {w : World} {ops : Array Oper} {rest : List Oper} {o : Oper} {a : Act} {Q : Exit → Act → World → Prop} (k : IntKind)
    (hg : o.guard = none) (s x : Operand) (t e : TypeId) (bytes : Nat) (hop : o.op = Op.call { callee := Callee.builtin Builtin.append, args := #[s, x], argTypes := #[t, t] })
    (h1 : P.underlying t = some (.slice e)) (hi : (P.info? e).map (fun i => (i.zero, i.size, i.bytes)) = some (some (.int k 0), 1, bytes))
    (A : Option Addr) (n : Nat) (xs : List Int) (hs : a.eval s = .slice A n n) (hx : Kd.C (Kd.int k) w A n xs)
    (A2 : Option Addr) (m c2 : Nat) (ys : List Int) (he2 : a.eval x = .slice A2 m c2) (hy : Kd.C (Kd.int k) w A2 m ys) (hm : 0 < m)
    (b1 : n + m ≤ maxLen) (b2 : (n + m) * bytes ≤ 140737488355328)
    (hK : ∀ v' w', Kd.R (Kd.int k) e w' w.heap.size (fun _ => True) v' (xs ++ ys) → Below w.heap.size w w' → wpList P ops Q rest (a.put o.dst v') w') :
    wpList P ops Q (o :: rest) a w := by
  obtain ⟨i0, hi0, hz0, hz1, hz2⟩ := info_parts hi
  obtain ⟨ad, hA2, _⟩ := hy.2.2 hm
  subst hA2
  refine wpList_append_grows w hg s x t hop e i0 (.int k 0) 1 bytes h1 hi0 hz0 hz1 hz2 rfl (by decide) A n n (nums k xs) hs (fun hA => ⟨C_none hx hA, C_none hx hA⟩) (by rw [nums_length, hx.1]; omega)
    (fun b hb j u hu => C_cells hx b hb j u hu) ad m c2 (nums k ys) he2 (by rw [nums_length, hy.1]; omega) (fun j u hu => C_cells hy ad rfl j u hu)
    (fun u hu => by
      rw [nums, List.mem_map] at hu
      obtain ⟨z, _, rfl⟩ := hu
      rfl) (by omega) b1 b2 ?_
  intro v' w' ho hgr
  refine hK v' w' (Kd.R_of_own ?_ (fun _ _ => trivial)) ((Below.refl _ w).grown hgr (Nat.le_refl _) (fun k e => by cases e))
  have e1 : (xs ++ ys).length = n + m := by rw [List.length_append, hx.1, hy.1]
  have e2 : encs (Value.int k) (xs ++ ys) = nums k xs ++ nums k ys := by rw [encs_append]; rfl
  rw [e1, e2]
  exact ho

theorem below_after {B n : Nat} {w W w' : World} (h : Below B w W) (hb : Below n W w') (hn : W.heap.size = n) (hB : B ≤ n) : Below B w w' := by
  subst hn; exact below_then h hB hb

theorem heap_new (W : World) (o : Obj) : (W.alloc o).heap[W.heap.size]? = some o := heap_alloc_new W o
theorem heap_old (W : World) (o : Obj) (k : Nat) (h : k < W.heap.size) : (W.alloc o).heap[k]? = W.heap[k]? := Below.heap_alloc W o k h
theorem heap_new_drewN (W : World) (n : Nat) (o : Obj) : ((W.drewN n).alloc o).heap[W.heap.size]? = some o := heap_alloc_new (W.drewN n) o

/-! A slice of bytes that is read: what it reads as; it may lie anywhere, and is never written. -/
def Sl (w : World) (v : Value) (xs : List Int) : Prop := ∃ A c, v = .slice A xs.length c ∧ xs.length ≤ c ∧ Kd.C (Kd.int .u8) w A xs.length xs
theorem Sl.below {w w' : World} {v : Value} {xs : List Int} (h : Sl w v xs) (hb : Below w.heap.size w w') : Sl w' v xs := by
  obtain ⟨A, c, e, hc, hC⟩ := h
  exact ⟨A, c, e, hc, Kd.C_below hC hb⟩
theorem Sl.drew {w : World} {v : Value} {xs : List Int} (h : Sl w v xs) : Sl w.drew v xs := h.below (below_drew1 (Below.refl _ _))
theorem Sl.drewN {w : World} {v : Value} {xs : List Int} (h : Sl w v xs) (n : Nat) : Sl (w.drewN n) v xs := h.below (pw_below_drewN (Below.refl _ _) n)
theorem Sl.alloc {w : World} {v : Value} {xs : List Int} (h : Sl w v xs) (o : Obj) : Sl (w.alloc o) v xs := h.below (below_alloc (Below.refl _ _) o)
theorem Sl.of_R {w : World} {e base : Nat} {ok : Nat → Prop} {v : Value} {xs : List Int} (h : Kd.R (Kd.int .u8) e w base ok v xs) : Sl w v xs := Kd.R_reads h
theorem Sl.of_V {w : World} {e base : Nat} {ok : Nat → Prop} {v : Value} {xs : List Int} (h : Kd.V (Kd.int .u8) e w base ok v xs) : Sl w v xs := by
  obtain ⟨A, c, rfl, hc, hF⟩ := h
  exact ⟨A, c, rfl, hc, Kd.F_now hF⟩
theorem Sl.to_V {w : World} {e base : Nat} {v : Value} {xs : List Int} (h : Sl w v xs) : Kd.V (Kd.int .u8) e w base (fun k_ => k_ < w.heap.size) v xs := by
  obtain ⟨A, c, rfl, hc, hC⟩ := h
  refine Kd.V_mk hc (fun W' hW => ?_)
  refine ⟨hC.1, hC.2.1, fun hp => ?_⟩
  obtain ⟨ad, e, hr⟩ := hC.2.2 hp
  refine ⟨ad, e, fun j p hj => ?_⟩
  obtain ⟨c, h1, h2, h3⟩ := hr j p hj
  refine ⟨c, h1, h2, fun i u hu => ?_⟩
  have hlt := World.block_lt_of_cell? w _ (h3 i u hu)
  exact (World.cell?_of_block (hW _ hlt hlt)).trans (h3 i u hu)
theorem Sl.nil (w : World) : Sl w (.slice none 0 0) [] := ⟨none, 0, rfl, Nat.le_refl _, Kd.C_nil _ _⟩
theorem Sl.mk {w : World} {A : Option Addr} {c : Nat} {xs : List Int} (h : Kd.C (Kd.int .u8) w A xs.length xs) (hc : xs.length ≤ c) : Sl w (.slice A xs.length c) xs := ⟨A, c, rfl, hc, h⟩
theorem Sl.string {P : Program} {w : World} {src dst e : TypeId} {v : Value} {xs : List Int} (hs : P.underlying src = some (.slice e)) (he : P.underlying e = some (.int .u8)) (hd : P.underlying dst = some .string)
    (h : Sl w v xs) : (convert src dst v).run P w = .ok (.string (strOfNums xs)) w := by
  obtain ⟨A, c, rfl, _, hC⟩ := h
  exact Kd.C_string hs he hd hC
theorem below_of_drawn {w w' : World} (h : Drawn0 w w') : Below w.heap.size w w' := h.below


/-- An append of bytes to a slice that is full, as what the operation comes to. -/
theorem exec_app {P : Program} {w : World} {f : Operand → Value} {o : Oper} {s x : Operand} {t e : TypeId} {bytes : Nat} (hop : o.op = Op.call { callee := Callee.builtin Builtin.append, args := #[s, x], argTypes := #[t, t] })
    (h1 : P.underlying t = some (.slice e)) (hi : (P.info? e).map (fun i => (i.zero, i.size, i.bytes)) = some (some (.int .u8 0), 1, bytes))
    {A : Option Addr} {n : Nat} {xs : List Int} (hs : f s = .slice A n n) (hx : Kd.C (Kd.int .u8) w A n xs) {v : Value} {ys : List Int} (he : f x = v) (hy : Sl w v ys)
    (b1 : n + ys.length ≤ maxLen) (b2 : (n + ys.length) * bytes ≤ 140737488355328) :
    ∃ v' w', (execOp f o).run P w = .ok (.value v') w' ∧ Sl w' v' (xs ++ ys) ∧ Below w.heap.size w w' := by
  obtain ⟨i0, hi0, hz0, hz1, hz2⟩ := info_parts hi
  obtain ⟨A2, c2, rfl, hc2, hC2⟩ := hy
  have hxl : xs.length = n := hx.1
  rcases Nat.eq_zero_or_pos ys.length with h0 | hm
  · obtain rfl : ys = [] := List.eq_nil_of_length_eq_zero h0
    have hsrc : Src P i0.size t (.slice A2 ([] : List Int).length c2) 0 [] w := by
      cases A2 with
      | none => exact Src.ofNil _ h1 c2
      | some ad => exact Src.ofSlice _ h1 ad 0 c2 [] (by simp) (fun j u hj => by cases j <;> cases hj) (fun u hu => by cases hu)
    have hrun := run_append_nothing (P := P) w t t o.type e i0 h1 hi0 A n n (Nat.le_refl _) _ hsrc
    refine ⟨.slice A n n, w, ?_, ?_, Below.refl _ _⟩
    · have hrun' : (Builtin.append_ #[t, t] o.type #[Value.slice A n n, Value.slice A2 0 c2]).run P w = .ok (.slice A n n) w := hrun
      simp [execOp, hop, resolve, invoke, builtin, hs, he, hrun', Result.andThen]
    · rw [List.append_nil]
      subst hxl
      exact ⟨A, xs.length, rfl, Nat.le_refl _, hx⟩
  · obtain ⟨ad, hA2, _⟩ := hC2.2.2 hm
    subst hA2
    have hC : ∀ j u, (nums .u8 ys)[j]? = some u → w.cell? (ad.add j) = some u := fun j u hu => C_cells hC2 ad rfl j u hu
    have one : ∀ u ∈ nums .u8 ys, u.oneCell' = true := fun u hu => by
      rw [nums, List.mem_map] at hu
      obtain ⟨z, _, rfl⟩ := hu
      rfl
    have fin : ∀ v' w', w'.ownsRow w.heap.size e 1 v' (n + ys.length) (nums .u8 xs ++ nums .u8 ys) → Sl w' v' (xs ++ ys) := by
      intro v' w' ho
      refine Sl.of_R (e := e) (base := w.heap.size) (ok := fun _ => True) (Kd.R_of_own ?_ (fun _ _ => trivial))
      have e1 : (xs ++ ys).length = n + ys.length := by rw [List.length_append, hxl]
      have e2 : encs (Value.int .u8) (xs ++ ys) = nums .u8 xs ++ nums .u8 ys := by rw [encs_append]; rfl
      rw [e1, e2]
      exact ho
    cases A with
    | some b =>
      obtain ⟨v', w', hrun, r1, r2⟩ := run_append_arg_grows (P := P) w t o.type e i0 (.int .u8 0) 1 bytes h1 hi0 hz0 hz1 hz2 rfl (by decide) b n n (nums .u8 xs) (by rw [nums_length, hxl]; omega) (fun j u hu => C_cells hx b rfl j u hu) ad ys.length c2 (nums .u8 ys) (by rw [nums_length]; omega) hC (by omega) b1 b2
      refine ⟨v', w', ?_, fin v' w' r1, (Below.refl _ w).grown r2 (Nat.le_refl _) (fun k e => by cases e)⟩
      simp [execOp, hop, resolve, invoke, builtin, hs, he, hrun, Result.andThen]
    | none =>
      obtain rfl : n = 0 := C_none hx rfl
      obtain rfl : xs = [] := List.eq_nil_of_length_eq_zero hxl
      obtain ⟨v', w', hrun, r1, r2, _⟩ := run_append_own (P := P) w w.heap.size t o.type e i0 (.int .u8 0) 1 bytes h1 hi0 hz0 hz1 hz2 rfl (by decide) (.slice none 0 0) 0 [] (World.ownsRow_nil w _ e 1) ad ys.length c2 (nums .u8 ys) (by rw [nums_length]; omega) hC one b1 b2 (Nat.le_refl _)
      refine ⟨v', w', ?_, fin v' w' r1, (Below.refl _ w).grown r2 (Nat.le_refl _) (fun k e => by cases e)⟩
      simp [execOp, hop, resolve, invoke, builtin, hs, he, hrun, Result.andThen]
theorem Sl.toC {w : World} {A : Option Addr} {n c : Nat} {xs : List Int} (h : Sl w (.slice A n c) xs) : n = xs.length ∧ n ≤ c ∧ Kd.C (Kd.int .u8) w A n xs := by
  obtain ⟨A', c', e, hc, hC⟩ := h
  injection e with e1 e2 e3
  subst e1; subst e2; subst e3
  exact ⟨rfl, hc, hC⟩
/-- The same in a region that draws its order. -/
theorem value_app {P : Program} {oi : Oper} {ops : Array Oper} {Q : Exit → Act → World → Prop} {N : Option Tmp} {a : Act} {w : World} {K : Act → World → Prop} {s x : Operand} {t e : TypeId} {bytes : Nat} (hw : Region.wanted oi (yielded ops a.tmps) = true) (hN : oi.dst = N)
    (hop : oi.op = Op.call { callee := Callee.builtin Builtin.append, args := #[s, x], argTypes := #[t, t] })
    (h1 : P.underlying t = some (.slice e)) (hi : (P.info? e).map (fun i => (i.zero, i.size, i.bytes)) = some (some (.int .u8 0), 1, bytes))
    {A : Option Addr} {n c : Nat} {xs : List Int} (hs : a.eval s = .slice A n n) (hx : Sl w (.slice A n c) xs) {v : Value} {ys : List Int} (he : a.eval x = v) (hy : Sl w v ys)
    (b1 : n + ys.length ≤ maxLen) (b2 : (n + ys.length) * bytes ≤ 140737488355328)
    (h : ∀ v' w', Sl w' v' (xs ++ ys) → Below w.heap.size w w' → K (a.put N v') w') : if Region.wanted oi (yielded ops a.tmps) = true then Oper.wp P oi a w K Q else K (a.put N undef) w := by
  obtain ⟨v', w', hr, h1', h2⟩ := exec_app (o := oi) (f := a.eval) hop h1 hi hs hx.toC.2.2 he hy b1 b2
  exact value_ hw hN hr (h v' w' h1' h2)
end Go.Proofs.Ytedfcjcnhgomoaa.Own
end
-- MERGED YtedfcjcnhgomoaaByt
section
/- Lists of bytes as numbers: when two texts made of them are the same; a byte's bits. -/
namespace Go.Proofs.Ytedfcjcnhgomoaa.Byt
open Go.RowKit

/-- Each is a byte's number. -/
def Ok (l : List Int) : Prop := ∀ x ∈ l, 0 ≤ x ∧ x ≤ 255

theorem ok_nil : Ok [] := fun _ h => by cases h
theorem ok_cons {x : Int} {l : List Int} (h : 0 ≤ x ∧ x ≤ 255) (hl : Ok l) : Ok (x :: l) := fun y hy => by
  rcases List.mem_cons.1 hy with rfl | hy
  · exact h
  · exact hl y hy
theorem ok_append {l m : List Int} (hl : Ok l) (hm : Ok m) : Ok (l ++ m) := fun y hy => by
  rcases List.mem_append.1 hy with hy | hy
  · exact hl y hy
  · exact hm y hy
theorem ok_take {l : List Int} (h : Ok l) (n : Nat) : Ok (l.take n) := fun x hx => h x (List.mem_of_mem_take hx)
theorem ok_drop {l : List Int} (h : Ok l) (n : Nat) : Ok (l.drop n) := fun x hx => h x (List.mem_of_mem_drop hx)
theorem ok_set {l : List Int} (h : Ok l) (n : Nat) {x : Int} (hx : 0 ≤ x ∧ x ≤ 255) : Ok (l.set n x) := fun y hy => by
  rcases List.mem_or_eq_of_mem_set hy with hy | rfl
  · exact h y hy
  · exact hx
theorem wf_u8 {x : Int} : (Lit.int .u8 x).wf = true ↔ (0 ≤ x ∧ x ≤ 255) := by
  simp [Lit.wf, IntKind.min, IntKind.max, IntKind.signed, IntKind.bits]
theorem ok_of_wf {l : List Int} (h : ∀ x ∈ l, (Lit.int .u8 x).wf = true) : Ok l := fun x hx => wf_u8.1 (h x hx)
theorem wf_u32 {x : Int} (h : (Lit.int .u32 x).wf = true) : 0 ≤ x ∧ x ≤ 4294967295 := by
  simp [Lit.wf, IntKind.min, IntKind.max, IntKind.signed, IntKind.bits] at h
  omega
theorem wf_i64 {x : Int} (h : (Lit.int .i64 x).wf = true) : -9223372036854775808 ≤ x ∧ x ≤ 9223372036854775807 := by
  simp [Lit.wf, IntKind.min, IntKind.max, IntKind.signed, IntKind.bits] at h
  omega

theorem byte_inj {x y : Int} (hx : 0 ≤ x ∧ x ≤ 255) (hy : 0 ≤ y ∧ y ≤ 255) (h : UInt8.ofNat x.toNat = UInt8.ofNat y.toNat) : x = y := by
  have := congrArg UInt8.toNat h
  simp only [UInt8.toNat_ofNat'] at this
  omega
theorem map_inj : ∀ {l m : List Int}, Ok l → Ok m → l.map (fun n => UInt8.ofNat n.toNat) = m.map (fun n => UInt8.ofNat n.toNat) → l = m
  | [], [], _, _, _ => rfl
  | [], _ :: _, _, _, h => by simp at h
  | _ :: _, [], _, _, h => by simp at h
  | x :: l, y :: m, hl, hm, h => by
    simp only [List.map_cons, List.cons.injEq] at h
    have e := byte_inj (hl x (by simp)) (hm y (by simp)) h.1
    rw [e, map_inj (fun z hz => hl z (List.mem_cons_of_mem _ hz)) (fun z hz => hm z (List.mem_cons_of_mem _ hz)) h.2]
/-- Two texts of bytes are the same just where the bytes are. -/
theorem str_eq {l m : List Int} (hl : Ok l) (hm : Ok m) : (strOfNums l).toList = (strOfNums m).toList ↔ l = m := by
  rw [Lib.strOfNums_toList, Lib.strOfNums_toList]
  exact ⟨map_inj hl hm, fun h => by rw [h]⟩
theorem str_eq' {l m : List Int} (hl : Ok l) (hm : Ok m) (h : l ≠ m) : ¬ (strOfNums l).toList = (strOfNums m).toList := fun e => h ((str_eq hl hm).1 e)

theorem wrap_in (x : Int) (h : -9223372036854775808 ≤ x ∧ x ≤ 9223372036854775807) : wrap64 x = x := by unfold wrap64; omega
theorem rd_at (l : List Int) (i : Nat) (h : i < l.length) : l.getD ((i : Int)).toNat 0 = l[i] := by
  rw [Int.toNat_natCast, List.getD_eq_getElem?_getD, List.getElem?_eq_getElem h]; rfl

end Go.Proofs.Ytedfcjcnhgomoaa.Byt
end
-- MERGED YtedfcjcnhgomoaaGr
section
/- A slice of bytes that grows: either it is full (nothing can be written into it) or its row is the call's own; appends, of bytes and of strings, in the walk and in regions. -/
namespace Go.Proofs.Ytedfcjcnhgomoaa.Own
open Go.RowKit Go.Proofs.YtedfcjcnhgomoaaW.PrintWords Go.Proofs.YtedfcjcnhgomoaaW.PrintLast Go.Proofs.YtedfcjcnhgomoaaW.PrintMore

/-- A string's bytes, as numbers. -/
def numsOf (s : ByteArray) : List Int := s.data.toList.map fun b => (b.toNat : Int)
theorem numsOf_length (s : ByteArray) : (numsOf s).length = s.size := by
  unfold numsOf; rw [List.length_map, Array.length_toList]; rfl
theorem nums_numsOf (s : ByteArray) : nums .u8 (numsOf s) = Lib.strCells s := by
  unfold nums numsOf Lib.strCells; rw [List.map_map]; rfl
theorem ok_numsOf (s : ByteArray) : Byt.Ok (numsOf s) := by
  intro x hx
  unfold numsOf at hx
  rw [List.mem_map] at hx
  obtain ⟨b, _, rfl⟩ := hx
  have := b.toNat_lt
  omega
theorem strOf_numsOf (s : ByteArray) : strOfNums (numsOf s) = s := by
  have e : ((fun n : Int => UInt8.ofNat n.toNat) ∘ fun b : UInt8 => (b.toNat : Int)) = id := by
    funext b; simp
  apply ByteArray.ext
  unfold strOfNums numsOf
  rw [List.map_map, e, List.map_id]

def Gr (B : Nat) (e : TypeId) (w : World) (v : Value) (xs : List Int) : Prop :=
  (∃ A, v = .slice A xs.length xs.length ∧ Kd.C (Kd.int .u8) w A xs.length xs) ∨ w.ownsRow B e 1 v xs.length (nums .u8 xs)

theorem ownsRow_below {w w' : World} {B : Nat} {e : TypeId} {size : Nat} {v : Value} {n : Nat} {xs : List Value} (h : w.ownsRow B e size v n xs) (hb : Below w.heap.size w w') : w'.ownsRow B e size v n xs :=
  h.kept (row := none) ⟨hb.os, hb.tape, hb.output, hb.size, fun k hk _ => hb.block k hk⟩ (by cases v.ownBlock <;> simp)
theorem Sl.of_own {w : World} {B : Nat} {e : TypeId} {v : Value} {xs : List Int} (h : w.ownsRow B e 1 v xs.length (nums .u8 xs)) : Sl w v xs :=
  Sl.of_R (e := e) (base := B) (ok := fun _ => True) (Kd.R_of_own h (fun _ _ => trivial))
theorem Gr.sl {B : Nat} {e : TypeId} {w : World} {v : Value} {xs : List Int} (h : Gr B e w v xs) : Sl w v xs := by
  rcases h with ⟨A, rfl, hC⟩ | h
  · exact ⟨A, xs.length, rfl, Nat.le_refl _, hC⟩
  · exact Sl.of_own h
theorem Gr.below {B : Nat} {e : TypeId} {w w' : World} {v : Value} {xs : List Int} (h : Gr B e w v xs) (hb : Below w.heap.size w w') : Gr B e w' v xs := by
  rcases h with ⟨A, rfl, hC⟩ | h
  · exact .inl ⟨A, rfl, Kd.C_below hC hb⟩
  · exact .inr (ownsRow_below h hb)
theorem Gr.mono {B B' : Nat} {e : TypeId} {w : World} {v : Value} {xs : List Int} (h : Gr B e w v xs) (hB : B' ≤ B) : Gr B' e w v xs := h.imp id (fun h => h.mono hB)
theorem Gr.drew {B : Nat} {e : TypeId} {w : World} {v : Value} {xs : List Int} (h : Gr B e w v xs) : Gr B e w.drew v xs := h.below (below_drew1 (Below.refl _ _))
theorem Gr.alloc {B : Nat} {e : TypeId} {w : World} {v : Value} {xs : List Int} (h : Gr B e w v xs) (o : Obj) : Gr B e (w.alloc o) v xs := h.below (below_alloc (Below.refl _ _) o)
theorem Gr.cut {w : World} {A : Option Addr} {n c : Nat} {xs : List Int} (B : Nat) (e : TypeId) (h : Sl w (.slice A n c) xs) : Gr B e w (.slice A n n) xs := by
  obtain ⟨rfl, _, hC⟩ := h.toC
  exact .inl ⟨A, rfl, hC⟩
theorem Gr.nil (B : Nat) (e : TypeId) (w : World) : Gr B e w (.slice none 0 0) [] := .inl ⟨none, rfl, Kd.C_nil _ _⟩
theorem Gr.of_R {B : Nat} {e : TypeId} {w : World} {ok : Nat → Prop} {v : Value} {xs : List Int} (h : Kd.R (Kd.int .u8) e w B ok v xs) : Gr B e w v xs := .inr (Kd.own_of_R h)
/-- One byte that has just been laid. -/
theorem Sl.one (w : World) (x : Int) (T : TypeId) (fr : Nat × Nat) : Sl (w.alloc (.cells #[.int .u8 x] T fr)) (.slice (some ⟨w.heap.size, 0, none⟩) 1 1) [x] :=
  Sl.mk (C_of_lit .u8 [x] (heap_new w _) rfl (by simp)) (by simp)

theorem C_len {w : World} {A : Option Addr} {n : Nat} {xs : List Int} (h : Kd.C (Kd.int .u8) w A n xs) : xs.length = n := h.1
/-- An append to a slice that grows: of a slice's bytes. -/
theorem exec_gr {P : Program} {w : World} {f : Operand → Value} {o : Oper} {s x : Operand} {t e : TypeId} {B : Nat} (hop : o.op = Op.call { callee := Callee.builtin Builtin.append, args := #[s, x], argTypes := #[t, t] })
    (h1 : P.underlying t = some (.slice e)) (hi : (P.info? e).map (fun i => (i.zero, i.size, i.bytes)) = some (some (.int .u8 0), 1, 1)) (hB : B ≤ w.heap.size)
    {vs : Value} {xs : List Int} (hs : f s = vs) (hx : Gr B e w vs xs) {v : Value} {ys : List Int} (he : f x = v) (hy : Sl w v ys)
    (b1 : xs.length + ys.length ≤ 140737488355328) :
    ∃ v' w', (execOp f o).run P w = .ok (.value v') w' ∧ Gr B e w' v' (xs ++ ys) ∧ Below B w w' := by
  obtain ⟨i0, hi0, hz0, hz1, hz2⟩ := info_parts hi
  obtain ⟨A2, c2, rfl, hc2, hC2⟩ := hy
  have hm : xs.length + ys.length ≤ maxLen := by unfold maxLen; omega
  have e1 : (xs ++ ys).length = xs.length + ys.length := List.length_append
  have e2 : nums .u8 (xs ++ ys) = nums .u8 xs ++ nums .u8 ys := nums_append _ _ _
  rcases Nat.eq_zero_or_pos ys.length with h0 | hp
  · obtain rfl : ys = [] := List.eq_nil_of_length_eq_zero h0
    have hsrc : Src P i0.size t (.slice A2 ([] : List Int).length c2) 0 [] w := by
      cases A2 with
      | none => exact Src.ofNil _ h1 c2
      | some ad => exact Src.ofSlice _ h1 ad 0 c2 [] (by simp) (fun j u hj => by cases j <;> cases hj) (fun u hu => by cases hu)
    obtain ⟨A, c, rfl, hc, _⟩ := hx.sl
    have hrun := run_append_nothing (P := P) w t t o.type e i0 h1 hi0 A xs.length c hc _ hsrc
    refine ⟨.slice A xs.length c, w, ?_, by rw [List.append_nil]; exact hx, Below.refl _ _⟩
    have hrun' : (Builtin.append_ #[t, t] o.type #[Value.slice A xs.length c, Value.slice A2 0 c2]).run P w = .ok (.slice A xs.length c) w := hrun
    simp [execOp, hop, resolve, invoke, builtin, hs, he, hrun', Result.andThen]
  · obtain ⟨ad, hA2, _⟩ := hC2.2.2 hp
    subst hA2
    have hC : ∀ j u, (nums .u8 ys)[j]? = some u → w.cell? (ad.add j) = some u := fun j u hu => C_cells hC2 ad rfl j u hu
    have one : ∀ u ∈ nums .u8 ys, u.oneCell' = true := fun u hu => by
      rw [nums, List.mem_map] at hu
      obtain ⟨z, _, rfl⟩ := hu
      rfl
    have own : ∀ B', B ≤ B' → B' ≤ w.heap.size → w.ownsRow B' e 1 vs xs.length (nums .u8 xs) → ∃ v' w', (execOp f o).run P w = .ok (.value v') w' ∧ Gr B e w' v' (xs ++ ys) ∧ Below B w w' := by
      intro B' hBB hB' ho
      obtain ⟨v', w', hrun, r1, r2, _⟩ := run_append_own (P := P) w B' t o.type e i0 (.int .u8 0) 1 1 h1 hi0 hz0 hz1 hz2 rfl (by decide) vs xs.length (nums .u8 xs) ho ad ys.length c2 (nums .u8 ys) (by rw [nums_length]; omega) hC one hm (by omega) hB'
      refine ⟨v', w', ?_, .inr ?_, (Below.refl _ w).grown r2 hB (fun k e => Nat.le_trans hBB (ho.lt k e).1)⟩
      · simp [execOp, hop, resolve, invoke, builtin, hs, he, hrun, Result.andThen]
      · rw [e1, e2]; exact r1.mono hBB
    rcases hx with ⟨A, rfl, hx⟩ | ho
    · cases A with
      | some b =>
        obtain ⟨v', w', hrun, r1, r2⟩ := run_append_arg_grows (P := P) w t o.type e i0 (.int .u8 0) 1 1 h1 hi0 hz0 hz1 hz2 rfl (by decide) b xs.length xs.length (nums .u8 xs) (by rw [nums_length]; omega) (fun j u hu => C_cells hx b rfl j u hu) ad ys.length c2 (nums .u8 ys) (by rw [nums_length]; omega) hC (by omega) hm (by omega)
        refine ⟨v', w', ?_, .inr ?_, (Below.refl _ w).grown r2 hB (fun k e => by cases e)⟩
        · simp [execOp, hop, resolve, invoke, builtin, hs, he, hrun, Result.andThen]
        · rw [e1, e2]; exact r1.mono hB
      | none =>
        have h0 : xs.length = 0 := C_none hx rfl
        obtain rfl : xs = [] := List.eq_nil_of_length_eq_zero h0
        exact own w.heap.size hB (Nat.le_refl _) (World.ownsRow_nil w _ e 1)
    · exact own B (Nat.le_refl _) hB ho
/-- .. of a string's bytes. -/
theorem exec_gr_str {P : Program} {w : World} {f : Operand → Value} {o : Oper} {s x : Operand} {t tx e : TypeId} {B : Nat} (hop : o.op = Op.call { callee := Callee.builtin Builtin.append, args := #[s, x], argTypes := #[t, tx] })
    (h1 : P.underlying t = some (.slice e)) (h2 : P.underlying tx = some .string) (hi : (P.info? e).map (fun i => (i.zero, i.size, i.bytes)) = some (some (.int .u8 0), 1, 1)) (hB : B ≤ w.heap.size)
    {vs : Value} {xs : List Int} (hs : f s = vs) (hx : Gr B e w vs xs) {u : ByteArray} (he : f x = .string u)
    (b1 : xs.length + u.size ≤ 140737488355328) :
    ∃ v' w', (execOp f o).run P w = .ok (.value v') w' ∧ Gr B e w' v' (xs ++ numsOf u) ∧ Below B w w' := by
  obtain ⟨i0, hi0, hz0, hz1, hz2⟩ := info_parts hi
  have hm : xs.length + u.size ≤ maxLen := by unfold maxLen; omega
  have e1 : (xs ++ numsOf u).length = xs.length + u.size := by rw [List.length_append, numsOf_length]
  have e2 : nums .u8 (xs ++ numsOf u) = nums .u8 xs ++ Lib.strCells u := by rw [nums_append, nums_numsOf]
  have own : ∀ B', B ≤ B' → B' ≤ w.heap.size → w.ownsRow B' e 1 vs xs.length (nums .u8 xs) → ∃ v' w', (execOp f o).run P w = .ok (.value v') w' ∧ Gr B e w' v' (xs ++ numsOf u) ∧ Below B w w' := by
    intro B' hBB hB' ho
    obtain ⟨v', w', hrun, r1, r2, _⟩ := Lib.run_append_own_string (P := P) w B' t tx o.type e i0 h1 h2 hi0 hz0 hz1 hz2 vs xs.length (nums .u8 xs) ho u hm b1 hB'
    refine ⟨v', w', ?_, .inr ?_, (Below.refl _ w).grown r2 hB (fun k e => Nat.le_trans hBB (ho.lt k e).1)⟩
    · simp [execOp, hop, resolve, invoke, builtin, hs, he, hrun, Result.andThen]
    · rw [e1, e2]; exact r1.mono hBB
  rcases hx with ⟨A, rfl, hx⟩ | ho
  · rcases Nat.eq_zero_or_pos u.size with h0 | hp
    · have hn : numsOf u = [] := List.eq_nil_of_length_eq_zero (by rw [numsOf_length]; exact h0)
      have hb0 : byteCells u = [] := List.eq_nil_of_length_eq_zero (by rw [byteCells_length]; exact h0)
      have hsrc := Src.ofString (P := P) w h2 u
      rw [h0, hb0] at hsrc
      have hrun := run_append_nothing (P := P) w t tx o.type e i0 h1 hi0 A xs.length xs.length (Nat.le_refl _) (.string u) (hz1 ▸ hsrc)
      refine ⟨.slice A xs.length xs.length, w, ?_, .inl ⟨A, by rw [hn, List.append_nil], by rw [hn, List.append_nil]; exact hx⟩, Below.refl _ _⟩
      simp [execOp, hop, resolve, invoke, builtin, hs, he, hrun, Result.andThen]
    · cases A with
      | none =>
        have h0 : xs.length = 0 := C_none hx rfl
        obtain rfl : xs = [] := List.eq_nil_of_length_eq_zero h0
        exact own w.heap.size hB (Nat.le_refl _) (World.ownsRow_nil w _ e 1)
      | some b =>
        have hC : ∀ j v, (nums .u8 xs)[j]? = some v → w.cell? (b.add j) = some v := fun j v hv => C_cells hx b rfl j v hv
        have hold := run_firstCells_some (P := P) w.drew i0.size xs.length b xs.length xs.length (nums .u8 xs) (by rw [nums_length, hz1]; omega) hC
        have hsrc := Src.ofString (P := P) w h2 u
        have hgc := growslice_fits (need := xs.length + u.size) (old := xs.length) (bytes := 1) (by omega) (by omega)
        have hrun := run_append_grow_src (P := P) w t tx o.type e i0 (.int .u8 0) h1 hi0 hz0 (some b) xs.length xs.length (nums .u8 xs) hold (.string u) u.size (byteCells u) (hz1 ▸ hsrc) (by omega) (by omega) (by rw [hz2]; exact hgc)
        have H : ∀ v' w', (Builtin.append_ #[t, tx] o.type #[Value.slice (some b) xs.length xs.length, Value.string u]).run P w = .ok v' w' → (execOp f o).run P w = .ok (.value v') w' := fun v' w' hr => by
          simp [execOp, hop, resolve, invoke, builtin, hs, he, hr, Result.andThen]
        refine ⟨_, _, H _ _ hrun, .inr ?_, (below_alloc (below_drew1 (Below.refl w.heap.size w)) _).mono hB⟩
        rw [e1]
        have hcl : (nums .u8 xs ++ byteCells u) = nums .u8 (xs ++ numsOf u) := by rw [e2]; rfl
        have hlen : (nums .u8 (xs ++ numsOf u)).length = xs.length + u.size := by rw [nums_length, e1]
        refine ⟨by rw [hlen]; omega, .inr ⟨w.heap.size, _, _, rfl, hB, heap_alloc_new w.drew _, grownCap_ge w _ _ e, grownCap_le_maxLen w _ _ e hm, ?_, ?_⟩⟩
        · have hge := grownCap_ge w (xs.length + u.size) xs.length e
          rw [hcl]
          simp only [Array.size_append, List.size_toArray, size_zeroCells, hlen]
          simp only [Value.cells, Array.size]
          simp
          omega
        · rw [hcl]
          simp only [Array.toList_append, Nat.mul_one]
          rw [← hlen]
          exact List.take_left
  · exact own B (Nat.le_refl _) hB ho

/-- What an operation comes to, for the walk. -/
theorem wpList_ex {P : Program} {ops : Array Oper} {rest : List Oper} {o : Oper} {a : Act} {w w' : World} {v' : Value} {Q : Exit → Act → World → Prop} (hg : o.guard = none) (hrun : (execOp a.eval o).run P w = .ok (.value v') w')
    (hK : wpList P ops Q rest (a.put o.dst v') w') : wpList P ops Q (o :: rest) a w := by
  refine wpList_plain hg fun K hK' => ?_
  unfold Oper.wp
  rw [hrun]
  exact hK' _ _ hK
theorem wpList_gr {P : Program} {ops : Array Oper} {rest : List Oper} {o : Oper} {a : Act} {w : World} {Q : Exit → Act → World → Prop} {s x : Operand} {t e : TypeId} {B : Nat} (hg : o.guard = none)
    (hop : o.op = Op.call { callee := Callee.builtin Builtin.append, args := #[s, x], argTypes := #[t, t] })
    (h1 : P.underlying t = some (.slice e)) (hi : (P.info? e).map (fun i => (i.zero, i.size, i.bytes)) = some (some (.int .u8 0), 1, 1)) (hB : B ≤ w.heap.size)
    {vs : Value} {xs : List Int} (hs : a.eval s = vs) (hx : Gr B e w vs xs) {v : Value} {ys : List Int} (he : a.eval x = v) (hy : Sl w v ys) (b1 : xs.length + ys.length ≤ 140737488355328)
    (hK : ∀ v' w', Gr B e w' v' (xs ++ ys) → Below B w w' → wpList P ops Q rest (a.put o.dst v') w') : wpList P ops Q (o :: rest) a w := by
  obtain ⟨v', w', hrun, r1, r2⟩ := exec_gr (P := P) (o := o) (f := a.eval) hop h1 hi hB hs hx he hy b1
  exact wpList_ex hg hrun (hK v' w' r1 r2)
theorem wpList_gr_str {P : Program} {ops : Array Oper} {rest : List Oper} {o : Oper} {a : Act} {w : World} {Q : Exit → Act → World → Prop} {s x : Operand} {t tx e : TypeId} {B : Nat} (hg : o.guard = none)
    (hop : o.op = Op.call { callee := Callee.builtin Builtin.append, args := #[s, x], argTypes := #[t, tx] })
    (h1 : P.underlying t = some (.slice e)) (h2 : P.underlying tx = some .string) (hi : (P.info? e).map (fun i => (i.zero, i.size, i.bytes)) = some (some (.int .u8 0), 1, 1)) (hB : B ≤ w.heap.size)
    {vs : Value} {xs : List Int} (hs : a.eval s = vs) (hx : Gr B e w vs xs) {u : ByteArray} (he : a.eval x = .string u) (b1 : xs.length + u.size ≤ 140737488355328)
    (hK : ∀ v' w', Gr B e w' v' (xs ++ numsOf u) → Below B w w' → wpList P ops Q rest (a.put o.dst v') w') : wpList P ops Q (o :: rest) a w := by
  obtain ⟨v', w', hrun, r1, r2⟩ := exec_gr_str (P := P) (o := o) (f := a.eval) hop h1 h2 hi hB hs hx he b1
  exact wpList_ex hg hrun (hK v' w' r1 r2)
theorem Sl.lit {w : World} {C : Array Value} {T : TypeId} {fr : Nat × Nat} {l : List Int} (hC : C.toList = nums .u8 l) (hm : l.length ≤ 9223372036854775807) : Sl (w.alloc (.cells C T fr)) (.slice (some ⟨w.heap.size, 0, none⟩) l.length l.length) l :=
  Sl.mk (C_of_lit .u8 l (heap_new w _) hC hm) (Nat.le_refl _)
theorem Sl.take {w : World} {A : Option Addr} {n c : Nat} {l : List Int} (h : Sl w (.slice A n c) l) (k : Nat) (hk : k ≤ n) : Sl w (.slice A k c) (l.take k) := by
  obtain ⟨rfl, hc, hC⟩ := h.toC
  have hl : (l.take k).length = k := by rw [List.length_take]; omega
  have := C_take hC k hk
  exact ⟨A, c, by rw [hl], by rw [hl]; omega, by rw [hl]; exact this⟩
/-- A slice literal in a region that draws its order. -/
theorem value_lit {P : Program} {oi : Oper} {ops : Array Oper} {Q : Exit → Act → World → Prop} {N : Option Tmp} {a : Act} {w : World} {K : Act → World → Prop} {C : Array Value} {T : TypeId} {l : List Int} (hw : Region.wanted oi (yielded ops a.tmps) = true) (hN : oi.dst = N)
    (hrun : (execOp a.eval oi).run P w = .ok (.value (.slice (some ⟨w.heap.size, 0, none⟩) l.length l.length)) (w.alloc (.cells C T))) (hC : C.toList = nums .u8 l) (hm : l.length ≤ 9223372036854775807)
    (h : ∀ v' w', Sl w' v' l → Below w.heap.size w w' → K (a.put N v') w') : if Region.wanted oi (yielded ops a.tmps) = true then Oper.wp P oi a w K Q else K (a.put N undef) w :=
  value_ hw hN hrun (h _ _ (Sl.lit hC hm) (below_alloc (Below.refl _ _) _))
end Go.Proofs.Ytedfcjcnhgomoaa.Own
end
-- MERGED YtedfcjcnhgomoaaVaryL
section
/- The plain law of numbers and texts as bytes: one way to write a number, what was put is read; no program in sight. -/
namespace Go.Proofs.Ytedfcjcnhgomoaa.Vy
open Go.RowKit

abbrev M : Int := 4611686018427387904
/-- A number's bytes. -/
def enc (n : Nat) : List Int := if n < 128 then [(n : Int)] else ((n % 128 + 128 : Nat) : Int) :: enc (n / 128)
termination_by n
decreasing_by omega
theorem enc_lt {n : Nat} (h : n < 128) : enc n = [(n : Int)] := by rw [enc, if_pos h]
theorem enc_ge {n : Nat} (h : 128 ≤ n) : enc n = ((n % 128 + 128 : Nat) : Int) :: enc (n / 128) := by rw [enc, if_neg (by omega)]
theorem enc_pos (n : Nat) : 0 < (enc n).length := by
  rw [enc]; split <;> simp
theorem enc_len : ∀ (k n : Nat), n < 128 ^ (k + 1) → (enc n).length ≤ k + 1 := by
  intro k
  induction k with
  | zero => intro n h; rw [enc_lt (by simpa using h)]; simp
  | succ k ih =>
    intro n h
    by_cases hn : n < 128
    · rw [enc_lt hn]; simp
    · rw [enc_ge (by omega), List.length_cons]
      have := ih (n / 128) (by rw [Nat.div_lt_iff_lt_mul (by decide)]; rw [Nat.pow_succ] at h; exact h)
      omega
theorem enc_len9 {n : Nat} (h : n ≤ 4611686018427387904) : (enc n).length ≤ 9 := enc_len 8 n (by omega)
theorem ok_enc (n : Nat) : Byt.Ok (enc n) := by
  induction n using Nat.strongRecOn with
  | _ n ih =>
    by_cases hn : n < 128
    · rw [enc_lt hn]; exact Byt.ok_cons (by omega) Byt.ok_nil
    · rw [enc_ge (by omega)]; exact Byt.ok_cons (by omega) (ih (n / 128) (by omega))

/-- The number with which bytes begin, from its i-th byte on, and how many bytes it has (0: none). -/
def numG (i : Nat) (n : Int) : List Int → Int × Nat
  | [] => (0, 0)
  | c :: t =>
    if 9 ≤ i then (0, 0)
    else if 0 < c % 128 ∧ (M - n) / 128 ^ i < c % 128 then (0, 0)
    else if 128 ≤ c then numG (i + 1) (n + c % 128 * 128 ^ i) t
    else if c % 128 = 0 ∧ 0 < i then (0, 0)
    else (n + c % 128 * 128 ^ i, i + 1)
def numL (l : List Int) : Int × Nat := numG 0 0 l

theorem pow_pos (i : Nat) : (0 : Int) < 128 ^ i := Int.pow_pos (by decide)
theorem le_div (k a s : Int) (hs : 0 < s) : k ≤ a / s ↔ k * s ≤ a := Int.le_ediv_iff_mul_le hs

theorem numG_enc : ∀ (m i : Nat) (n : Int) (rest : List Int), i + (enc m).length ≤ 9 → n + (m : Int) * 128 ^ i ≤ M → (0 < m ∨ i = 0) →
    numG i n (enc m ++ rest) = (n + (m : Int) * 128 ^ i, i + (enc m).length) := by
  intro m
  induction m using Nat.strongRecOn with
  | _ m ih =>
    intro i n rest hl hb hp
    have hpw := pow_pos i
    by_cases hm : m < 128
    · rw [enc_lt hm] at hl ⊢
      have e : (m : Int) % 128 = m := by omega
      have hd : ¬ ((M - n) / 128 ^ i < (m : Int)) := by
        rw [Int.not_lt, le_div _ _ _ hpw]; omega
      simp only [List.singleton_append, numG, e]
      rw [if_neg (by simp at hl; omega), if_neg (fun h => hd h.2), if_neg (by omega), if_neg (by omega)]
      simp
    · rw [enc_ge (by omega)] at hl ⊢
      have e : (((m % 128 + 128 : Nat) : Int)) % 128 = ((m % 128 : Nat) : Int) := by omega
      have hsplit : (m : Int) * 128 ^ i = ((m % 128 : Nat) : Int) * 128 ^ i + ((m / 128 : Nat) : Int) * 128 ^ (i + 1) := by
        have h1 : (m : Int) = ((m % 128 : Nat) : Int) + ((m / 128 : Nat) : Int) * 128 := by omega
        rw [Int.pow_succ]
        conv => lhs; rw [h1, Int.add_mul]
        rw [Int.mul_assoc, Int.mul_comm 128]
      have hnn : (0 : Int) ≤ ((m / 128 : Nat) : Int) * 128 ^ (i + 1) := Int.mul_nonneg (by omega) (Int.le_of_lt (pow_pos _))
      have hd : ¬ ((M - n) / 128 ^ i < ((m % 128 : Nat) : Int)) := by
        rw [Int.not_lt, le_div _ _ _ hpw]; omega
      simp only [List.cons_append, numG, e]
      simp only [List.length_cons] at hl ⊢
      rw [if_neg (by omega), if_neg (fun h => hd h.2), if_pos (by omega)]
      rw [ih (m / 128) (by omega) (i + 1) _ rest (by omega) (by omega) (by omega)]
      refine Prod.ext ?_ (by simp; omega)
      show _ + _ = _
      rw [hsplit]; omega

theorem numG_one : ∀ (l : List Int) (i : Nat) (n : Int), Byt.Ok l → 0 ≤ n → n ≤ M → (numG i n l).2 ≠ 0 →
    ∃ m : Nat, (numG i n l).1 = n + (m : Int) * 128 ^ i ∧ i < (numG i n l).2 ∧ l.take ((numG i n l).2 - i) = enc m ∧ (0 < m ∨ i = 0) ∧ (numG i n l).2 ≤ i + l.length ∧ (numG i n l).1 ≤ M ∧ (numG i n l).2 ≤ 9 := by
  intro l
  induction l with
  | nil => intro i n _ _ _ h; exact absurd rfl h
  | cons c t ih =>
    intro i n hok h0 hM h
    have hpw := pow_pos i
    have hc := hok c (by simp)
    have hot : Byt.Ok t := fun x hx => hok x (by simp [hx])
    simp only [numG] at h ⊢
    by_cases h9 : 9 ≤ i
    · rw [if_pos h9] at h; exact absurd rfl h
    rw [if_neg h9] at h ⊢
    by_cases hg : 0 < c % 128 ∧ (M - n) / 128 ^ i < c % 128
    · rw [if_pos hg] at h; exact absurd rfl h
    rw [if_neg hg] at h ⊢
    have hle : n + c % 128 * 128 ^ i ≤ M := by
      by_cases hk : 0 < c % 128
      · have := (le_div (c % 128) (M - n) (128 ^ i) hpw).1 (by omega)
        omega
      · have : c % 128 = 0 := by omega
        rw [this]; omega
    have hnn : 0 ≤ c % 128 * 128 ^ i := Int.mul_nonneg (by omega) (by omega)
    by_cases hge : 128 ≤ c
    · rw [if_pos hge] at h ⊢
      obtain ⟨m, h1, h2, h3, h4, h5, h6, h7⟩ := ih (i + 1) _ hot (by omega) hle h
      have hm : 0 < m := by omega
      refine ⟨m * 128 + (c % 128).toNat, ?_, by omega, ?_, .inl (by omega), by simp; omega, h6, h7⟩
      · rw [h1, Int.pow_succ]
        have e1 : ((m * 128 + (c % 128).toNat : Nat) : Int) = (m : Int) * 128 + c % 128 := by omega
        rw [e1, Int.add_mul, show (m : Int) * 128 * 128 ^ i = (m : Int) * (128 ^ i * 128) by rw [Int.mul_assoc, Int.mul_comm 128]]; omega
      · have e1 : (numG (i + 1) (n + c % 128 * 128 ^ i) t).2 - i = ((numG (i + 1) (n + c % 128 * 128 ^ i) t).2 - (i + 1)) + 1 := by omega
        rw [e1, List.take_succ_cons, h3, enc_ge (n := m * 128 + (c % 128).toNat) (by omega)]
        have e2 : (m * 128 + (c % 128).toNat) / 128 = m := by omega
        have e3 : (((m * 128 + (c % 128).toNat) % 128 + 128 : Nat) : Int) = c := by omega
        rw [e2, e3]
    · rw [if_neg hge] at h ⊢
      by_cases hz : c % 128 = 0 ∧ 0 < i
      · rw [if_pos hz] at h; exact absurd rfl h
      rw [if_neg hz]
      have e : c % 128 = c := by omega
      refine ⟨c.toNat, ?_, by simp, ?_, by omega, by simp, hle, by simp; omega⟩
      · rw [e, show ((c.toNat : Nat) : Int) = c by omega]
      · have e1 : i + 1 - i = 0 + 1 := by omega
        rw [e1, List.take_succ_cons, List.take_zero, enc_lt (by omega)]
        congr 1; omega

theorem numL_enc (m : Nat) (hm : (m : Int) ≤ M) (rest : List Int) : numL (enc m ++ rest) = ((m : Int), (enc m).length) := by
  unfold numL
  have := numG_enc m 0 0 rest (by have := enc_len9 (n := m) (by have : M = 4611686018427387904 := rfl; omega); omega) (by simpa using hm) (.inr rfl)
  simpa using this
theorem numL_one {l : List Int} (hok : Byt.Ok l) (h : (numL l).2 ≠ 0) : ∃ m : Nat, (numL l).1 = (m : Int) ∧ l.take (numL l).2 = enc m ∧ (m : Int) ≤ M ∧ (numL l).2 ≤ l.length ∧ (numL l).2 ≤ 9 := by
  obtain ⟨m, h1, h2, h3, h4, h5, h6, h7⟩ := numG_one l 0 0 hok (by omega) (by decide) h
  refine ⟨m, by show (numG 0 0 l).1 = _; simpa using h1, h3, ?_, by show (numG 0 0 l).2 ≤ _; simpa using h5, h7⟩
  have : (numG 0 0 l).1 = (m : Int) := by simpa using h1
  rw [← this]; exact h6
theorem numG_zero : ∀ (l : List Int) (i : Nat) (n : Int), (numG i n l).2 = 0 → (numG i n l).1 = 0 := by
  intro l
  induction l with
  | nil => intro i n _; rfl
  | cons c t ih =>
    intro i n h
    simp only [numG] at h ⊢
    repeat' split
    all_goals first | rfl | (rename_i h1 h2 h3; rw [if_neg h1, if_neg h2, if_pos h3] at h; exact ih _ _ h) | skip
    rename_i h1 h2 h3 h4
    rw [if_neg h1, if_neg h2, if_neg h3, if_neg h4] at h
    simp at h
theorem numL_zero {l : List Int} (h : (numL l).2 = 0) : (numL l).1 = 0 := numG_zero l 0 0 h
theorem numL_nonneg {l : List Int} (hok : Byt.Ok l) : 0 ≤ (numL l).1 ∧ (numL l).1 ≤ M := by
  by_cases h : (numL l).2 = 0
  · rw [numL_zero h]; exact ⟨by omega, by decide⟩
  · obtain ⟨m, h1, _, h2, _⟩ := numL_one hok h
    rw [h1]; exact ⟨by omega, h2⟩
theorem numL_le {l : List Int} (hok : Byt.Ok l) : (numL l).2 ≤ l.length := by
  by_cases h : (numL l).2 = 0
  · omega
  · obtain ⟨m, _, _, _, h2, _⟩ := numL_one hok h
    exact h2

/-- A number of any sign. -/
def zig (n : Int) : Int := if n < 0 then -2 * n - 1 else 2 * n
def zag (n : Int) : Int := if n % 2 = 1 then -((n + 1) / 2) else n / 2
theorem zag_zig (n : Int) : zag (zig n) = n := by unfold zag zig; split <;> split <;> omega
theorem zig_zag {n : Int} (h : 0 ≤ n) : zig (zag n) = n := by unfold zag zig; split <;> split <;> omega

def putL (l : List Int) (n : Int) : List Int := if n < 0 ∨ M < n then l else l ++ enc n.toNat
def putSL (l : List Int) (n : Int) : List Int := if n < -2305843009213693952 ∨ 2305843009213693952 < n then l else putL l (zig n)
def putTL (l s : List Int) : List Int := putL l (s.length : Int) ++ s
theorem putL_good {l : List Int} {n : Nat} (h : (n : Int) ≤ M) : putL l (n : Int) = l ++ enc n := by
  unfold putL; rw [if_neg (by omega), Int.toNat_natCast]
theorem putL_len (l : List Int) (n : Int) : (putL l n).length ≤ l.length + 9 := by
  unfold putL
  split
  · omega
  · rw [List.length_append]
    have := enc_len9 (n := n.toNat) (by have : M = 4611686018427387904 := rfl; omega)
    omega
theorem ok_putL {l : List Int} (h : Byt.Ok l) (n : Int) : Byt.Ok (putL l n) := by
  unfold putL; split
  · exact h
  · exact Byt.ok_append h (ok_enc _)
theorem ok_putSL {l : List Int} (h : Byt.Ok l) (n : Int) : Byt.Ok (putSL l n) := by
  unfold putSL; split
  · exact h
  · exact ok_putL h _
theorem putSL_len (l : List Int) (n : Int) : (putSL l n).length ≤ l.length + 9 := by
  unfold putSL; split
  · omega
  · exact putL_len _ _
theorem ok_putTL {l s : List Int} (h : Byt.Ok l) (hs : Byt.Ok s) : Byt.Ok (putTL l s) := Byt.ok_append (ok_putL h _) hs

theorem putSL_zag {m : Nat} (h : (m : Int) ≤ M) : putSL [] (zag m) = enc m := by
  have hM : M = 4611686018427387904 := rfl
  unfold putSL
  rw [if_neg (by unfold zag; split <;> omega), zig_zag (by omega), putL_good h, List.nil_append]
/-- A reader's steps: the value, how many bytes; bad: 0 bytes. -/
def sgnL (l : List Int) : Int × Nat := (zag (numL l).1, (numL l).2)
def textL (l : List Int) : List Int × Nat :=
  if (numL l).2 = 0 ∨ (l.length : Int) - (numL l).2 < (numL l).1 then ([], 0) else ((l.drop (numL l).2).take (numL l).1.toNat, (numL l).2 + (numL l).1.toNat)
theorem textL_le {l : List Int} (hok : Byt.Ok l) : (textL l).2 ≤ l.length := by
  unfold textL
  have h1 := numL_le hok
  have h2 := numL_nonneg hok
  split
  · exact Nat.zero_le _
  · simp only; omega
theorem textL_put (s rest : List Int) (hs : (s.length : Int) ≤ M) : textL (putTL [] s ++ rest) = (s, (enc s.length).length + s.length) := by
  unfold textL putTL
  rw [putL_good hs, List.nil_append, List.append_assoc, numL_enc s.length hs]
  have hp := enc_pos s.length
  simp only
  have e1 : ((enc s.length ++ (s ++ rest)).length : Int) = (enc s.length).length + (s.length + rest.length) := by simp
  rw [if_neg (by rw [e1]; omega)]
  simp
end Go.Proofs.Ytedfcjcnhgomoaa.Vy
end
-- MERGED YtedfcjcnhgomoaaVaryR
section
/- The walks of vary's readers. -/
namespace Go.Proofs.Ytedfcjcnhgomoaa.VaryR
open Go.RowKit Go.Proofs.Ytedfcjcnhgomoaa.P Go.Proofs.YtedfcjcnhgomoaaW.PrintWords Go.Proofs.YtedfcjcnhgomoaaW.PrintLast Go.Proofs.YtedfcjcnhgomoaaW.PrintMore Go.Proofs.Ytedfcjcnhgomoaa.Own Go.Proofs.Ytedfcjcnhgomoaa.Vy

/-- The cells of a reader. -/
def rdCells (v : Value) (at_ : Nat) (bad made : Bool) : Array Value := #[v, .int .i64 (at_ : Int), .bool bad, .bool made]
/-- A reader's block, as it stands: which bytes, where, and whether it is bad. -/
structure RdAt (g : Nat) (w : World) (v : Value) (l : List Int) (at_ : Nat) (bad : Bool) : Prop where
  heap : w.heap[g]? = some (.cells (rdCells v at_ bad true) 132 (0, 0))
  sl : Sl w v l
  le : at_ ≤ l.length
  len : l.length ≤ 140737488355000

theorem ret_int {k : IntKind} {a b : Int} (h : a = b) : Ending.returned (.int k a) = .returned (.int k b) := by rw [h]
theorem ahead_c (g : Nat) (w : World) (v : Value) (l : List Int) (at_ : Nat) (bad : Bool) (h : RdAt g w v l at_ bad) :
    Calls Try.prog 88 #[.pointer (some ⟨g, 0, none⟩)] w fun e w' => e = .returned (.int .i64 (((l.length - at_ : Nat)) : Int)) ∧ Drawn0 w w' := by
  have H := h.heap
  obtain ⟨A, c, hv, hc, hC⟩ := h.sl
  subst hv
  have hl := h.le
  have hlen := h.len
  have c0 : w.cell? ⟨g, 0, none⟩ = some (.slice A l.length c) := by rw [cell_of_row w g 0 _ _ _ H]; rfl
  have c1 : w.cell? ⟨g, 1, none⟩ = some (.int .i64 (at_ : Int)) := by rw [cell_of_row w g 1 _ _ _ H]; rfl
  clear H
  go_enter Try.func88, Try.ntmps88
  go_wp2_with fail
  go_quiet (fail)
  go_wp2_with fail
  go_ret
  exact ⟨ret_int (by omega), ⟨_, rfl⟩⟩
theorem fail_c (g : Nat) (w : World) (v : Value) (l : List Int) (at_ : Nat) (bad : Bool) (h : RdAt g w v l at_ bad) :
    Calls Try.prog 108 #[.pointer (some ⟨g, 0, none⟩)] w fun e w' => e = .returned (.int .i64 0) ∧ w' = w.setCell ⟨g, 2, none⟩ (.bool true) := by
  have H := h.heap
  have c2 : w.cell? ⟨g, 2, none⟩ = some (.bool bad) := by rw [cell_of_row w g 2 _ _ _ H]; rfl
  have f2 : w.frozen? ⟨g, 2, none⟩ = false := frozen_of_row w g 2 _ _ H
  clear H
  go_enter Try.func108, Try.ntmps108
  go_wp2_with fail
  go_ret
  exact ⟨rfl, rfl⟩
/-- The scale ahead of the k-th byte, as the machine has it. -/
def scal (k : Nat) : Int := if k ≤ 8 then 128 ^ k else -9223372036854775808
theorem scal_le {k : Nat} (h : k < 9) : scal k = 128 ^ k := if_pos (by omega)
theorem pow_le8 : ∀ {k : Nat}, k ≤ 8 → (128 : Int) ^ k ≤ 72057594037927936
  | 0, _ | 1, _ | 2, _ | 3, _ | 4, _ | 5, _ | 6, _ | 7, _ | 8, _ => by decide
theorem scal_next {k : Nat} (h : k < 9) : wrap64 (scal k * 128) = scal (k + 1) := by
  rw [scal_le h]
  by_cases h8 : k < 8
  · rw [scal_le (by omega), Int.pow_succ]
    have h1 := pow_le8 (k := k + 1) (by omega)
    rw [Int.pow_succ] at h1
    have h2 := Vy.pow_pos k
    exact Byt.wrap_in _ (by omega)
  · obtain rfl : k = 8 := by omega
    decide +kernel
theorem numG_bad {k : Nat} {n x : Int} {t : List Int} (h : k < 9) (h1 : 0 < x % 128) (h2 : (M - n) / 128 ^ k < x % 128) : numG k n (x :: t) = (0, 0) := by
  simp only [numG]; rw [if_neg (by omega), if_pos ⟨h1, h2⟩]
theorem numG_more {k : Nat} {n x : Int} {t : List Int} (h : k < 9) (h1 : ¬ (0 < x % 128 ∧ (M - n) / 128 ^ k < x % 128)) (h2 : 128 ≤ x) : numG k n (x :: t) = numG (k + 1) (n + x % 128 * 128 ^ k) t := by
  rw [numG, if_neg (by omega), if_neg h1, if_pos h2]
theorem numG_idle {k : Nat} {n x : Int} {t : List Int} (h : k < 9) (h2 : x < 128) (h3 : x % 128 = 0) (h4 : 0 < k) : numG k n (x :: t) = (0, 0) := by
  simp only [numG]; rw [if_neg (by omega), if_neg (by omega), if_neg (by omega), if_pos ⟨h3, h4⟩]
theorem numG_last {k : Nat} {n x : Int} {t : List Int} (h : k < 9) (h1 : ¬ (0 < x % 128 ∧ (M - n) / 128 ^ k < x % 128)) (h2 : x < 128) (h3 : ¬ (x % 128 = 0 ∧ 0 < k)) : numG k n (x :: t) = (n + x % 128 * 128 ^ k, k + 1) := by
  simp only [numG]; rw [if_neg (by omega), if_neg h1, if_neg (by omega), if_neg h3]
theorem numG_end {k : Nat} {n : Int} {t : List Int} (h : 9 ≤ k ∨ t = []) : numG k n t = (0, 0) := by
  cases t with
  | nil => rfl
  | cons x t => simp only [numG]; rw [if_pos (by simpa using h)]
/-- How the number's reading ends when there is none. -/
def NumEnd (g at_ : Nat) (l : List Int) (w : World) (e : Ending) (w' : World) : Prop :=
  e = .returned (.int .i64 (numL (l.drop at_)).1) ∧ (∃ n, w' = if (numL (l.drop at_)).2 = 0 then (w.drewN n).setCell ⟨g, 2, none⟩ (.bool true) else (w.drewN n).setCell ⟨g, 1, none⟩ (.int .i64 ((at_ + (numL (l.drop at_)).2 : Nat) : Int)))
theorem numEnd_none {g at_ : Nat} {l : List Int} {w : World} (d : Nat) (h : numL (l.drop at_) = (0, 0)) : NumEnd g at_ l w (.returned (.int .i64 0)) ((w.drewN d).setCell ⟨g, 2, none⟩ (.bool true)) := by
  unfold NumEnd; rw [h]; exact ⟨rfl, d, by rw [if_pos rfl]⟩
theorem numEnd_some {g at_ k : Nat} {n m : Int} {l : List Int} {w : World} (d : Nat) (h : numL (l.drop at_) = (n, k + 1)) (hm : m = (at_ : Int) + ((k : Int) + 1)) : NumEnd g at_ l w (.returned (.int .i64 n)) ((w.drewN d).setCell ⟨g, 1, none⟩ (.int .i64 m)) := by
  unfold NumEnd; rw [h]; refine ⟨rfl, d, ?_⟩
  rw [if_neg (by simp), hm]; congr 2
theorem RdAt.drewN {g : Nat} {w : World} {v : Value} {l : List Int} {at_ : Nat} {bad : Bool} (h : RdAt g w v l at_ bad) (n : Nat) : RdAt g (w.drewN n) v l at_ bad :=
  ⟨h.heap, h.sl.drewN n, h.le, h.len⟩
set_option maxHeartbeats 2000000 in
set_option maxRecDepth 100000 in
theorem num_c (g : Nat) (w : World) (v : Value) (l : List Int) (at_ : Nat) (h : RdAt g w v l at_ false) (hok : Byt.Ok l) :
    Calls Try.prog 87 #[.pointer (some ⟨g, 0, none⟩)] w (NumEnd g at_ l w) := by
  have HR := Aside0.mk h
  obtain ⟨N, hN⟩ : ∃ N, l.length - at_ = N := ⟨_, rfl⟩
  have ha := fun w => ahead_c g w v l at_ false
  rw [hN] at ha
  have HN := Aside0.mk hN
  have HOK := Aside0.mk hok
  have hb0 := h.le
  have hb1 := h.len
  clear h hN hok
  go_enter Try.func87, Try.ntmps87
  go_wp2_with fail
  refine (ha _ HR.out).mono ?_
  rintro e w1 ⟨rfl, nd, rfl⟩
  clear ha
  go_wp2_with fail
  all_goals
    go_loopw [2, 3, 10] (fun nv sv iv wr => ∃ (n : Int) (k : Nat) (d : Nat), nv = .int .i64 n ∧ sv = .int .i64 (scal k) ∧ iv = .int .i64 (k : Int) ∧ 0 ≤ n ∧ n ≤ 4611686018427387904 ∧ k ≤ 9 ∧ k ≤ N ∧ numG k n (l.drop (at_ + k)) = numL (l.drop at_) ∧ wr = w.drewN d) (fun _ _ iv _ => 9 - (intOf iv).toNat)
    case atStart => exact ⟨0, 0, nd, rfl, rfl, rfl, by omega, by omega, by omega, by omega, rfl, rfl⟩
    case round =>
      obtain ⟨n, k, d, rfl, rfl, rfl, h0, h1, hk9, hkN, hG, rfl⟩ := hrel
      by_cases hlt : k < 9 ∧ k < N
      · obtain ⟨hk, hkn⟩ := hlt
        have ha1 : (k : Int) < 9 := by omega
        have ha2 : (k : Int) < (N : Int) := by omega
        have hsl := HR.out.sl
        have hhp := HR.out.heap
        have hNl := HN.out
        have hlt : at_ + k < l.length := by omega
        obtain ⟨x, hx⟩ : ∃ x, l[at_ + k]? = some x := ⟨_, List.getElem?_eq_getElem hlt⟩
        have hxr := HOK.out x (List.mem_of_getElem? hx)
        obtain ⟨hx0, hx1⟩ := hxr
        obtain ⟨A, c, hv, hc, hC⟩ := hsl
        obtain ⟨ad, hA, _⟩ := hC.2.2 (by omega)
        subst hA
        have hcell : w.cell? (ad.add (at_ + k)) = some (.int .u8 x) := C_cells hC ad rfl (at_ + k) _ (by simp [nums, hx])
        rw [hv] at hhp
        have c0 : w.cell? ⟨g, 0, none⟩ = some (.slice (some ad) l.length c) := by rw [cell_of_row w g 0 _ _ _ hhp]; rfl
        have c1 : w.cell? ⟨g, 1, none⟩ = some (.int .i64 (at_ : Int)) := by rw [cell_of_row w g 1 _ _ _ hhp]; rfl
        have i1 : ((at_ : Int) + (k : Int)).toNat = at_ + k := by omega
        have i2 : (0 : Int) ≤ (at_ : Int) + (k : Int) := by omega
        have i3 : (at_ : Int) + (k : Int) < (l.length : Int) := by omega
        have i4 : IntKind.i64.wrap ((at_ : Int) + (k : Int)) = (at_ : Int) + (k : Int) := by rw [IntKind.wrap_i64]; omega
        have HG := Aside0.mk hG
        have HD := Aside0.mk (show l.drop (at_ + k) = x :: l.drop (at_ + k + 1) by rw [List.drop_eq_getElem_cons hlt]; rw [List.getElem?_eq_getElem hlt] at hx; rw [Option.some.inj hx])
        have f1 : w.frozen? ⟨g, 1, none⟩ = false := frozen_of_row w g 1 _ _ hhp
        clear hG hx hC hv hhp hNl hlt
        go_wp2_with fail
        go_quiet (fail)
        clear i1 i2 i3 i4 c0 hcell
        obtain ⟨s, hs⟩ : ∃ s, s = scal k := ⟨_, rfl⟩
        have hs0 : 0 < s := by rw [hs, scal_le hk]; exact Vy.pow_pos k
        have hs1 : s ≤ 72057594037927936 := by rw [hs, scal_le hk]; exact pow_le8 (by omega)
        have HS := Aside0.mk hs
        rw [← hs]
        have hsp : s = 128 ^ k := by rw [hs, scal_le hk]
        have HP := Aside0.mk hsp
        clear hs hsp
        by_cases hb : 0 < x % 128 ∧ (4611686018427387904 - n) / s < x % 128
        · obtain ⟨hb1, hb2⟩ := hb
          have HZ := Aside0.mk (HG.out.symm.trans ((congrArg (numG k n) HD.out).trans (numG_bad hk hb1 (by rw [← HP.out]; exact hb2))))
          go_wp2_with fail
          refine (fail_c g _ v l at_ false (HR.out.drewN _)).mono ?_
          rintro e w1 ⟨rfl, rfl⟩
          go_wp2_with fail
          go_ret
          exact numEnd_none _ HZ.out
        · have hP0 : 0 ≤ x % 128 * s := Int.mul_nonneg (by omega) (by omega)
          have hP2 : n + x % 128 * s ≤ 4611686018427387904 := by
            by_cases hk : 0 < x % 128
            · have := (le_div (x % 128) (4611686018427387904 - n) s hs0).1 (by omega)
              omega
            · have : x % 128 = 0 := by omega
              rw [this]; omega
          have hP1 : x % 128 * s ≤ 4611686018427387904 := by omega
          have HNB := Aside0.mk (show ¬ (0 < x % 128 ∧ (M - n) / 128 ^ k < x % 128) by rw [← HP.out]; exact hb)
          by_cases hge : 128 ≤ x
          · have HM := Aside0.mk ((numG_more (t := l.drop (at_ + k + 1)) hk HNB.out hge).symm.trans ((by rw [← HD.out]; exact HG.out : numG k n (x :: l.drop (at_ + k + 1)) = numL (l.drop at_))))
            have HW := Aside0.mk (scal_next hk)
            rw [← HS.out] at HW
            clear hb
            by_cases h1 : 0 < x % 128
            · have h2 : x % 128 ≤ (4611686018427387904 - n) / s := by
                have := HNB.out
                rw [← HP.out] at this
                have e : M = 4611686018427387904 := rfl
                rw [e] at this; omega
              go_wp2_with fail
              go_roundw
              case rel => exact ⟨_, k + 1, _, rfl, by rw [HW.out], by go_num, by omega, by omega, by omega, by omega, by rw [← HM.out, HP.out]; rfl, rfl⟩
              case measure => simp [intOf]; omega
            · have h2 : ¬ 0 < x % 128 := h1
              go_wp2_with fail
              go_roundw
              case rel => exact ⟨_, k + 1, _, rfl, by rw [HW.out], by go_num, by omega, by omega, by omega, by omega, by rw [← HM.out, HP.out]; rfl, rfl⟩
              case measure => simp [intOf]; omega
          · have hlt8 : x < 128 := by omega
            by_cases hz : x % 128 = 0 ∧ 0 < k
            · obtain ⟨hz1, hz2⟩ := hz
              have HZ := Aside0.mk (HG.out.symm.trans ((congrArg (numG k n) HD.out).trans (numG_idle hk hlt8 hz1 hz2)))
              have hz3 : (0 : Int) < (k : Int) := by omega
              obtain rfl : x = 0 := by omega
              clear hb hP0 hP1 hP2 hz1
              go_wp2_with fail
              refine (fail_c g _ v l at_ false (HR.out.drewN _)).mono ?_
              rintro e w1 ⟨rfl, rfl⟩
              go_wp2_with fail
              go_ret
              exact numEnd_none _ HZ.out
            · have HM := Aside0.mk (HG.out.symm.trans ((congrArg (numG k n) HD.out).trans (numG_last hk HNB.out hlt8 hz)))
              rw [← HP.out] at HM
              clear hb
              by_cases h1 : 0 < x % 128
              · have h2 : x % 128 ≤ (4611686018427387904 - n) / s := by
                  have := HNB.out
                  rw [← HP.out] at this
                  have e : M = 4611686018427387904 := rfl
                  rw [e] at this; omega
                have h3 : ¬ x % 128 = 0 := by omega
                clear hz
                go_wp2_with fail
                go_ret
                exact numEnd_some _ HM.out (by omega)
              · obtain rfl : x = 0 := by omega
                obtain rfl : k = 0 := by omega
                clear hz h1 hP0 hP1 hP2
                go_wp2_with fail
                go_ret
                exact numEnd_some _ (HM.out.trans (by rw [show (0 : Int) % 128 = 0 from rfl, Int.zero_mul, Int.add_zero])) (by omega)
      · have HZ := Aside0.mk (hG.symm.trans (numG_end (by
          by_cases h9 : 9 ≤ k
          · exact .inl h9
          · exact .inr (List.drop_of_length_le (by have := HN.out; omega)))))
        clear hG
        go_wp2_with fail
        all_goals first | (exfalso; omega) | skip
        refine (fail_c g _ v l at_ false (HR.out.drewN _)).mono ?_
        rintro e w1 ⟨rfl, rfl⟩
        go_wp2_with fail
        go_ret
        exact numEnd_none _ HZ.out

/-! What a reader's step leaves: all but its own block is as it was. -/
abbrev But (g : Nat) (w w' : World) : Prop := w.grownBy w' (some g)
theorem But.refl (g : Nat) (w : World) : But g w w := ⟨rfl, rfl, rfl, Nat.le_refl _, fun _ _ _ => rfl⟩
theorem But.trans {g : Nat} {w w1 w2 : World} (h : But g w w1) (h2 : But g w1 w2) : But g w w2 :=
  ⟨h2.os.trans h.os, h2.tape.trans h.tape, h2.output.trans h.output, Nat.le_trans h.size h2.size, fun k hk hn => (h2.block k (Nat.lt_of_lt_of_le hk h.size) hn).trans (h.block k hk hn)⟩
theorem But.drewN (g : Nat) (w : World) (n : Nat) : But g w (w.drewN n) := ⟨rfl, rfl, rfl, Nat.le_refl _, fun _ _ _ => rfl⟩
theorem But.setCell (g o : Nat) (w : World) (u : Value) : But g w (w.setCell ⟨g, o, none⟩ u) :=
  ⟨rfl, rfl, rfl, by simp, fun k _ hn => heap_setCell_other w ⟨g, o, none⟩ k u (fun e => hn (by rw [e]))⟩
theorem But.below {g B : Nat} {w w' : World} (h : But g w w') (hB : B ≤ g) (hs : B ≤ w.heap.size) : Below B w w' :=
  ⟨h.os, h.tape, h.output, h.size, fun k hk => h.block k (Nat.lt_of_lt_of_le hk hs) (fun e => by injection e; omega)⟩
theorem But.step {g B : Nat} {w0 w w' : World} (h : But g w w') (hb : Below B w0 w) (hB : B ≤ g) (hs : B ≤ w0.heap.size) : Below B w0 w' := hb.trans (h.below hB (Nat.le_trans hs hb.size))
theorem Sl.but {g : Nat} {w w' : World} {v : Value} {xs : List Int} (h : Sl w v xs) (hg : But g w w') (hno : ∀ o x, w.cell? ⟨g, o, none⟩ ≠ some (.int .u8 x)) : Sl w' v xs := by
  obtain ⟨A, c, rfl, hc, hC⟩ := h
  refine ⟨A, c, rfl, hc, hC.1, hC.2.1, fun hp => ?_⟩
  obtain ⟨ad, e, hr⟩ := hC.2.2 hp
  refine ⟨ad, e, fun j p hj => ?_⟩
  obtain ⟨c, h1, h2, h3⟩ := hr j p hj
  refine ⟨c, h1, h2, fun i u hu => ?_⟩
  have hcell := h3 i u hu
  have hlt := World.block_lt_of_cell? w _ hcell
  have hc' : c = [.int .u8 p] := h2
  subst hc'
  have hu' : u = .int .u8 p := by
    cases i with
    | zero => exact (Option.some.inj hu).symm
    | succ i => cases hu
  subst hu'
  refine (World.cell?_of_block (hg.block _ hlt (fun e => ?_))).trans hcell
  have hb : (ad.add (j * (Kd.int .u8).sz + i)).block = g := by injection e
  have hs : (ad.add (j * (Kd.int .u8).sz + i)).spot = none := by
    cases hq : (ad.add (j * (Kd.int .u8).sz + i)).spot with
    | none => rfl
    | some q =>
      unfold World.cell? at hcell
      rw [hq] at hcell
      split at hcell
      · simp at hcell
      · cases hcell
  refine hno (ad.add (j * (Kd.int .u8).sz + i)).off p ?_
  have he : (⟨g, (ad.add (j * (Kd.int .u8).sz + i)).off, none⟩ : Addr) = ad.add (j * (Kd.int .u8).sz + i) := by
    rw [← hb, ← hs]
  rw [he]; exact hcell
theorem RdAt.noByte {g : Nat} {w : World} {v : Value} {l : List Int} {a : Nat} {bad : Bool} (h : RdAt g w v l a bad) : ∀ o x, w.cell? ⟨g, o, none⟩ ≠ some (.int .u8 x) := by
  intro o x hc
  rw [cell_of_row w g o _ _ _ h.heap] at hc
  obtain ⟨A, c, hv, _, _⟩ := h.sl
  subst hv
  unfold rdCells at hc
  match o with
  | 0 | 1 | 2 | 3 => simp at hc
  | o + 4 => simp at hc
theorem RdAt.setAt {g : Nat} {w : World} {v : Value} {l : List Int} {a : Nat} {bad : Bool} (h : RdAt g w v l a bad) (a' : Nat) (ha : a' ≤ l.length) : RdAt g (w.setCell ⟨g, 1, none⟩ (.int .i64 (a' : Int))) v l a' bad :=
  ⟨by rw [heap_setCell_same _ _ _ _ _ _ h.heap]; rfl, Sl.but h.sl (But.setCell g 1 w _) h.noByte, ha, h.len⟩
theorem RdAt.setBad {g : Nat} {w : World} {v : Value} {l : List Int} {a : Nat} {bad : Bool} (h : RdAt g w v l a bad) (b : Bool) : RdAt g (w.setCell ⟨g, 2, none⟩ (.bool b)) v l a b :=
  ⟨by rw [heap_setCell_same _ _ _ _ _ _ h.heap]; rfl, Sl.but h.sl (But.setCell g 2 w _) h.noByte, h.le, h.len⟩
theorem RdAt.but {g g' : Nat} {w w' : World} {v : Value} {l : List Int} {a : Nat} {bad : Bool} (h : RdAt g w v l a bad) (hg : But g' w w') (hne : g ≠ g') (hno : ∀ o x, w.cell? ⟨g', o, none⟩ ≠ some (.int .u8 x)) : RdAt g w' v l a bad :=
  ⟨(hg.block g (Array.getElem?_eq_some_iff.1 h.heap).1 (fun e => hne (by injection e))).trans h.heap, Sl.but h.sl hg hno, h.le, h.len⟩
theorem RdAt.below {g : Nat} {w w' : World} {v : Value} {l : List Int} {a : Nat} {bad : Bool} (h : RdAt g w v l a bad) (hb : Below w.heap.size w w') : RdAt g w' v l a bad :=
  ⟨(hb.block g (Array.getElem?_eq_some_iff.1 h.heap).1).trans h.heap, h.sl.below hb, h.le, h.len⟩

/-- Cuts of what is read. -/
theorem slice_mid {P : Program} (t e : TypeId) {z : Option Value} {b : Nat} (ht : P.underlying t = some (.slice e)) (hi : (P.info? e).map (fun i => (i.zero, i.size, i.bytes)) = some (z, 1, b)) {w : World} {v : Value} {l : List Int} (h : Sl w v l) (lo hi' : Int) (h0 : 0 ≤ lo) (h1 : lo ≤ hi') (h2 : hi' ≤ l.length) :
    ∃ u, (∀ W : World, (Instr.slice t v (some (.int .i64 lo)) (some (.int .i64 hi')) none).run P W = .ok u W) ∧ Sl w u ((l.take hi'.toNat).drop lo.toNat) := by
  obtain ⟨A, c, rfl, hc, hC⟩ := h
  cases hq : P.info? e with
  | none => rw [hq] at hi; cases hi
  | some i =>
    rw [hq] at hi
    have hsz : i.size = 1 := by
      simp only [Option.map_some, Option.some.injEq, Prod.mk.injEq] at hi
      exact hi.2.1
    refine ⟨_, cut_mid t e .i64 .i64 ht hq 1 hsz A l.length c lo hi' h0 h1 h2 hc, ?_⟩
    have hm := Kd.C_mid (lo := lo.toNat) (hi := hi'.toNat) hC (by omega) (by omega) hc
    have hl : ((l.take hi'.toNat).drop lo.toNat).length = hi'.toNat - lo.toNat := by rw [List.length_drop, List.length_take]; omega
    rw [hl] at hm
    exact ⟨_, _, by rw [hl], by rw [hl]; omega, by rw [hl]; exact hm⟩

theorem slice_from {P : Program} (t e : TypeId) {z : Option Value} {b : Nat} (ht : P.underlying t = some (.slice e)) (hi : (P.info? e).map (fun i => (i.zero, i.size, i.bytes)) = some (z, 1, b)) {w : World} {v : Value} {l : List Int} (h : Sl w v l) (lo : Int) (h0 : 0 ≤ lo) (h1 : lo ≤ l.length) :
    ∃ u, (∀ W : World, (Instr.slice t v (some (.int .i64 lo)) none none).run P W = .ok u W) ∧ Sl w u (l.drop lo.toNat) := by
  obtain ⟨A, c, rfl, hc, hC⟩ := h
  cases hq : P.info? e with
  | none => rw [hq] at hi; cases hi
  | some i =>
    rw [hq] at hi
    have hsz : i.size = 1 := by
      simp only [Option.map_some, Option.some.injEq, Prod.mk.injEq] at hi
      exact hi.2.1
    refine ⟨_, cut_from t e .i64 ht hq 1 hsz A l.length c lo h0 h1, ?_⟩
    have hm := Kd.C_drop (m := lo.toNat) hC (by omega) hc
    have hl : (l.drop lo.toNat).length = l.length - lo.toNat := List.length_drop
    rw [hl] at hm
    exact ⟨_, _, by rw [hl], by rw [hl]; omega, by rw [hl]; exact hm⟩

/-- What a way of reading comes to. -/
def WayPost (g : Nat) (v : Value) (l : List Int) (a : Nat) (val : Value) (k : Nat) (w : World) (e : Ending) (w' : World) : Prop :=
  ∃ a', e = .returned val ∧ RdAt g w' v l a' (decide (k = 0)) ∧ (k ≠ 0 → a' = a + k) ∧ But g w w'
theorem num_way (g : Nat) (w : World) (v : Value) (l : List Int) (a : Nat) (h : RdAt g w v l a false) (hok : Byt.Ok l) :
    Calls Try.prog 87 #[.pointer (some ⟨g, 0, none⟩)] w (WayPost g v l a (.int .i64 (numL (l.drop a)).1) (numL (l.drop a)).2 w) := by
  refine (num_c g w v l a h hok).mono ?_
  rintro e w' ⟨rfl, n, rfl⟩
  have hle := numL_le (Byt.ok_drop hok a)
  rw [List.length_drop] at hle
  have hal := h.le
  by_cases hk : (numL (l.drop a)).2 = 0
  · rw [if_pos hk, hk]
    exact ⟨a, rfl, (h.drewN n).setBad true, fun h => absurd rfl h, (But.drewN g w n).trans (But.setCell g 2 _ _)⟩
  · rw [if_neg hk]
    refine ⟨a + (numL (l.drop a)).2, rfl, ?_, fun _ => rfl, (But.drewN g w n).trans (But.setCell g 1 _ _)⟩
    rw [decide_eq_false hk]
    exact (h.drewN n).setAt _ (by omega)
set_option maxHeartbeats 1000000 in
theorem numFn_c (g : Nat) (w : World) (v : Value) (l : List Int) (a : Nat) (h : RdAt g w v l a false) (hok : Byt.Ok l) :
    Calls Try.prog 86 #[.pointer (some ⟨g, 0, none⟩)] w (WayPost g v l a (.int .i64 (numL (l.drop a)).1) (numL (l.drop a)).2 w) := by
  have H := Aside0.mk h
  clear h
  go_enter Try.func86, Try.ntmps86
  go_wp2_with fail
  refine (num_way g _ v l a H.out hok).mono ?_
  rintro e w' ⟨a', rfl, h1, h2, h3⟩
  have H1 := Aside0.mk h1
  have H2 := Aside0.mk h2
  have H3 := Aside0.mk h3
  clear h1 h2 h3
  go_wp2_with fail
  go_ret
  exact ⟨a', rfl, H1.out, H2.out, H3.out⟩
set_option maxHeartbeats 1000000 in
theorem bad_c (g : Nat) (w : World) (v : Value) (l : List Int) (a : Nat) (bad : Bool) (h : RdAt g w v l a bad) :
    Calls Try.prog 48 #[.pointer (some ⟨g, 0, none⟩)] w fun e w' => e = .returned (.bool bad) ∧ w' = w := by
  have H := h.heap
  have c3 : w.cell? ⟨g, 3, none⟩ = some (.bool true) := by rw [cell_of_row w g 3 _ _ _ H]; rfl
  have c2 : w.cell? ⟨g, 2, none⟩ = some (.bool bad) := by rw [cell_of_row w g 2 _ _ _ H]; rfl
  clear H h
  go_enter Try.func48, Try.ntmps48
  go_wp2_with fail
  go_ret
  exact ⟨rfl, rfl⟩
set_option maxHeartbeats 1000000 in
theorem signed_c (g : Nat) (w : World) (v : Value) (l : List Int) (a : Nat) (h : RdAt g w v l a false) (hok : Byt.Ok l) :
    Calls Try.prog 112 #[.pointer (some ⟨g, 0, none⟩)] w (WayPost g v l a (.int .i64 (sgnL (l.drop a)).1) (sgnL (l.drop a)).2 w) := by
  have H := Aside0.mk h
  have hn := numL_nonneg (Byt.ok_drop hok a)
  clear h
  unfold sgnL
  obtain ⟨r, hr⟩ : ∃ r, r = (numL (l.drop a)).1 := ⟨_, rfl⟩
  rw [← hr] at hn ⊢
  have HR := Aside0.mk hr
  obtain ⟨hn0, hn1⟩ := hn
  have hn2 : r ≤ 4611686018427387904 := hn1
  clear hn1 hr
  by_cases hodd : r % 2 = 1
  · have HZ := Aside0.mk (show wrap64 (-(r + 1).tdiv 2) = zag r by
      have e : (r + 1).tdiv 2 = (r + 1) / 2 := Int.tdiv_eq_ediv_of_nonneg (by omega)
      rw [e, Byt.wrap_in _ (by omega)]; unfold zag; rw [if_pos hodd])
    go_enter Try.func112, Try.ntmps112
    go_wp2_with fail
    refine (num_way g _ v l a H.out hok).mono ?_
    rintro e w' ⟨a', rfl, h1, h2, h3⟩
    have H1 := Aside0.mk h1
    have H2 := Aside0.mk h2
    have H3 := Aside0.mk h3
    clear h1 h2 h3
    rw [← HR.out]
    go_wp2_with fail
    go_ret
    exact ⟨a', ret_int HZ.out, H1.out, H2.out, H3.out⟩
  · have HZ := Aside0.mk (show r / 2 = zag r by unfold zag; rw [if_neg hodd])
    go_enter Try.func112, Try.ntmps112
    go_wp2_with fail
    refine (num_way g _ v l a H.out hok).mono ?_
    rintro e w' ⟨a', rfl, h1, h2, h3⟩
    have H1 := Aside0.mk h1
    have H2 := Aside0.mk h2
    have H3 := Aside0.mk h3
    clear h1 h2 h3
    rw [← HR.out]
    go_wp2_with fail
    go_ret
    exact ⟨a', ret_int HZ.out, H1.out, H2.out, H3.out⟩
set_option maxHeartbeats 1000000 in
set_option maxRecDepth 100000 in
theorem text_c (g : Nat) (w : World) (v : Value) (l : List Int) (a : Nat) (h : RdAt g w v l a false) (hok : Byt.Ok l) :
    Calls Try.prog 90 #[.pointer (some ⟨g, 0, none⟩)] w (WayPost g v l a (.string (strOfNums (textL (l.drop a)).1)) (textL (l.drop a)).2 w) := by
  have H := Aside0.mk h
  obtain ⟨hn0, hn1⟩ := numL_nonneg (Byt.ok_drop hok a)
  have hle := numL_le (Byt.ok_drop hok a)
  rw [List.length_drop] at hle
  have hal := h.le
  have hll := h.len
  clear h
  obtain ⟨r, hr⟩ : ∃ r : Nat, (r : Int) = (numL (l.drop a)).1 := ⟨(numL (l.drop a)).1.toNat, by omega⟩
  obtain ⟨k, hk⟩ : ∃ k : Nat, k = (numL (l.drop a)).2 := ⟨_, rfl⟩
  have hn2 : (r : Int) ≤ 4611686018427387904 := by rw [hr]; exact hn1
  rw [← hk] at hle
  have HRR := Aside0.mk hr
  have HK := Aside0.mk hk
  have HT1 := Aside0.mk (show k = 0 ∨ (l.length : Int) - a - k < r → textL (l.drop a) = ([], 0) by
    intro hz
    unfold textL
    rw [← hr, ← hk, List.length_drop, if_pos (by rcases hz with h | h <;> omega)])
  have HT2 := Aside0.mk (show k ≠ 0 → (r : Int) ≤ (l.length : Int) - a - k → textL (l.drop a) = ((l.take (a + k + r)).drop (a + k), k + r) by
    intro hz hq
    unfold textL
    rw [← hr, ← hk, List.length_drop, if_neg (by omega), Int.toNat_natCast, List.drop_drop, List.drop_take, Nat.add_sub_cancel_left])
  clear hn0 hn1 hr hk
  go_enter Try.func90, Try.ntmps90
  go_wp2_with fail
  refine (num_way g _ v l a H.out hok).mono ?_
  rintro e w' ⟨a', rfl, h1, h2, h3⟩
  rw [← HRR.out]
  rw [← HK.out] at h1 h2
  have H1 := Aside0.mk h1
  have H3 := Aside0.mk h3
  have hh := h1.heap
  by_cases hz : k = 0
  · have c2 : w'.cell? ⟨g, 2, none⟩ = some (.bool true) := by rw [cell_of_row w' g 2 _ _ _ hh]; simp [rdCells, hz]
    have HT := Aside0.mk (HT1.out (.inl hz))
    clear h1 h2 h3 hh hz
    go_wp2_with fail
    refine (fail_c g _ v l a' _ H1.out).mono ?_
    rintro e w1 ⟨rfl, rfl⟩
    go_wp2_with fail
    go_ret
    unfold WayPost
    rw [HT.out]
    exact ⟨a', rfl, H1.out.setBad true, fun h => absurd rfl h, H3.out.trans (But.setCell g 2 _ _)⟩
  · obtain rfl := h2 hz
    rw [decide_eq_false hz] at H1
    have c2 : w'.cell? ⟨g, 2, none⟩ = some (.bool false) := by rw [cell_of_row w' g 2 _ _ _ hh]; simp [rdCells, hz]
    have c1 : w'.cell? ⟨g, 1, none⟩ = some (.int .i64 ((a + k : Nat) : Int)) := by rw [cell_of_row w' g 1 _ _ _ hh]; rfl
    have f1 : w'.frozen? ⟨g, 1, none⟩ = false := frozen_of_row w' g 1 _ _ hh
    have HZ := Aside0.mk hz
    obtain ⟨q, hq⟩ : ∃ q, q = l.length - (a + k) := ⟨_, rfl⟩
    clear h1 h3 hh hz
    by_cases hlt : q < r
    · have hlt' : decide ((q : Int) < (r : Int)) = true := by simp; omega
      have HT := Aside0.mk (HT1.out (.inr (by omega)))
      go_wp2_with fail
      refine (ahead_c g _ v l (a + k) false H1.out).mono ?_
      rintro e w1 ⟨rfl, nd, rfl⟩
      rw [← hq]
      go_wp2_with fail
      refine (fail_c g _ v l (a + k) _ (H1.out.drewN _)).mono ?_
      rintro e w1 ⟨rfl, rfl⟩
      go_wp2_with fail
      go_ret
      unfold WayPost
      rw [HT.out]
      exact ⟨a + k, rfl, (H1.out.drewN _).setBad true, fun h => absurd rfl h, H3.out.trans ((But.drewN g _ _).trans (But.setCell g 2 _ _))⟩
    · have hlt' : decide ((q : Int) < (r : Int)) = false := by simp; omega
      have HT := Aside0.mk (HT2.out HZ.out (by omega))
      have hsum : ((a + k : Nat) : Int) + (r : Int) ≤ 140737488355000 := by omega
      go_wp2_with fail
      refine (ahead_c g _ v l (a + k) false H1.out).mono ?_
      rintro e w1 ⟨rfl, nd, rfl⟩
      rw [← hq]
      go_wp2_with fail
      have h2 := (H1.out.drewN nd).setAt (a + k + r) (by omega)
      rw [show ((a + k + r : Nat) : Int) = (a : Int) + (k : Int) + (r : Int) by omega] at h2
      have HB2 := Aside0.mk (H3.out.trans ((But.drewN g _ nd).trans (But.setCell g 1 _ (.int .i64 ((a : Int) + (k : Int) + (r : Int))))))
      obtain ⟨W2, hW2⟩ : ∃ W2, W2 = (w'.drewN nd).setCell ⟨g, 1, none⟩ (.int .i64 ((a : Int) + (k : Int) + (r : Int))) := ⟨_, rfl⟩
      rw [← hW2] at h2 HB2 ⊢
      have H2 := Aside0.mk h2
      obtain ⟨u, hcut, hu⟩ := slice_mid (P := Try.prog) 25 5 Try.underlying25 info5 h2.sl ((a : Int) + (k : Int)) ((a : Int) + (k : Int) + (r : Int)) (by omega) (by omega) (by omega)
      rw [show ((a : Int) + (k : Int) + (r : Int)).toNat = a + k + r by omega, show ((a : Int) + (k : Int)).toNat = a + k by omega] at hu
      have hcv := fun n => (hu.drewN n).string (P := Try.prog) Try.underlying25 Try.underlying5 Try.underlying9
      have d0 : W2.cell? ⟨g, 0, none⟩ = some v := by rw [cell_of_row W2 g 0 _ _ _ h2.heap]; rfl
      have d1 : W2.cell? ⟨g, 1, none⟩ = some (.int .i64 ((a : Int) + (k : Int) + (r : Int))) := by rw [cell_of_row W2 g 1 _ _ _ h2.heap]; simp [rdCells]
      have i1 : IntKind.i64.wrap ((a : Int) + (k : Int) + (r : Int) - (r : Int)) = (a : Int) + (k : Int) := by rw [IntKind.wrap_i64]; omega
      have i2 : (a : Int) + (k : Int) + (r : Int) - (r : Int) = (a : Int) + (k : Int) := by omega
      clear hW2 h2 hu c1 c2 f1
      go_quiet (fail)
      go_wp2_with fail
      go_ret
      unfold WayPost
      rw [HT.out]
      refine ⟨a + k + r, rfl, ?_, fun _ => by omega, HB2.out.trans (But.drewN g _ _)⟩
      rw [decide_eq_false (by have := HZ.out; omega)]
      exact H2.out.drewN _

/-! The reader's methods. -/
/-- A reader as the caller knows it: bad for good, or at a place. -/
def Rd (g : Nat) (w : World) (v : Value) (l : List Int) (a : Nat) (bad : Bool) : Prop := ∃ a', RdAt g w v l a' bad ∧ (bad = false → a' = a)
theorem Rd.noByte {g : Nat} {w : World} {v : Value} {l : List Int} {a : Nat} {bad : Bool} (h : Rd g w v l a bad) : ∀ o x, w.cell? ⟨g, o, none⟩ ≠ some (.int .u8 x) := by
  obtain ⟨_, h, _⟩ := h
  exact h.noByte
theorem Rd.but {g g' : Nat} {w w' : World} {v : Value} {l : List Int} {a : Nat} {bad : Bool} (h : Rd g w v l a bad) (hg : But g' w w') (hne : g ≠ g') (hno : ∀ o x, w.cell? ⟨g', o, none⟩ ≠ some (.int .u8 x)) : Rd g w' v l a bad := by
  obtain ⟨a', h, h2⟩ := h
  exact ⟨a', h.but hg hne hno, h2⟩
theorem Rd.below {g : Nat} {w w' : World} {v : Value} {l : List Int} {a : Nat} {bad : Bool} (h : Rd g w v l a bad) (hb : Below w.heap.size w w') : Rd g w' v l a bad := by
  obtain ⟨a', h, h2⟩ := h
  exact ⟨a', h.below hb, h2⟩
/-- A step: what is told, where the reader stands then, whether it is bad. -/
def stepA (bad : Bool) (a k : Nat) : Nat := if bad then a else a + k
def stepB (bad : Bool) (k : Nat) : Bool := bad || decide (k = 0)
def stepV {α : Type} (z : α) (bad : Bool) (k : Nat) (x : α) : α := if stepB bad k then z else x
def RdPost (g : Nat) (v : Value) (l : List Int) (a : Nat) (bad : Bool) (val : Value) (k : Nat) (w : World) (e : Ending) (w' : World) : Prop :=
  e = .returned val ∧ Rd g w' v l (stepA bad a k) (stepB bad k) ∧ But g w w'
theorem RdPost.mk {g : Nat} {v : Value} {l : List Int} {a k a' : Nat} {val : Value} {w w' : World} (h : RdAt g w' v l a' (decide (k = 0))) (h2 : k ≠ 0 → a' = a + k) (h3 : But g w w') : RdPost g v l a false val k w (.returned val) w' :=
  ⟨rfl, ⟨a', by simpa [stepB] using h, fun hk => by simp [stepB] at hk; rw [h2 hk]; rfl⟩, h3⟩
set_option maxHeartbeats 1000000 in
theorem readInt_bad (F : Nat) (g : Nat) (w : World) (v : Value) (l : List Int) (a : Nat) (k : Nat) (h : Rd g w v l a true) :
    Calls Try.prog 85 #[.pointer (some ⟨g, 0, none⟩), .func (.func F) #[] #[]] w (RdPost g v l a true (.int .i64 0) k w) := by
  obtain ⟨a', h, _⟩ := h
  have H := Aside0.mk h
  clear h
  go_enter Try.func85, Try.ntmps85
  go_wp2_with fail
  refine (bad_c g _ v l a' true H.out).mono ?_
  rintro e w' ⟨rfl, rfl⟩
  go_wp2_with fail
  go_ret
  exact ⟨rfl, ⟨a', H.out, fun h => by cases h⟩, But.refl g _⟩
end Go.Proofs.Ytedfcjcnhgomoaa.VaryR
end

import Derived.Test.YtedfcjcnhgomoaaProg
import Derived.Below
import Derived.Deep.Draws
import Derived.Deep.AppendLies
import Derived.Maps.AppendAt
import Derived.OwnWalk
import Derived.Laws.BytesArg
import Derived.Laws.MakeOwn
import Derived.Laws.OwnMore
import Derived.Deep.OwnRows
import Derived.Tactics
import Derived.Lib.ConvBytes
import Derived.Laws.Slices
import Derived.WalkKit
import Derived.KernelRfl
import Derived.RowKit3
import Derived.Deep.LoopGhost
import Derived.Deep.QuietTactic
import Derived.BigQuiet
import Derived.WideLaws
import Derived.Deep.DeepCutAuto
import Derived.Deep.CutBlock
import Derived.Deep.RegionHeld3
import Derived.Laws.Rows
import Derived.Lib.AppendStr
import Derived.ArgAppend
import Derived.Laws.IdiomCopy
import Derived.OrdersHeld
import Derived.Laws.BitsLemmas
import Derived.RowKit
import Derived.Test.YtedfcjcnhgomoaaWWords
import Derived.Test.YtedfcjcnhgomoaaWLast
import Derived.Test.YtedfcjcnhgomoaaWTab
import Derived.Test.YtedfcjcnhgomoaaWFour
import Derived.Test.YtedfcjcnhgomoaaWQPut
import Derived.Test.YtedfcjcnhgomoaaWApart
import Derived.Test.YtedfcjcnhgomoaaWArr
import Derived.Test.YtedfcjcnhgomoaaWZeros
import Derived.Test.YtedfcjcnhgomoaaWFoot
import Derived.Test.YtedfcjcnhgomoaaWKept
import Derived.Test.YtedfcjcnhgomoaaWShare
import Derived.Test.YtedfcjcnhgomoaaWN
import Derived.Test.YtedfcjcnhgomoaaWFootNe
import Derived.Test.YtedfcjcnhgomoaaWAt
import Derived.Test.YtedfcjcnhgomoaaWEqStruct
import Derived.Test.YtedfcjcnhgomoaaWRepsOne
import Derived.Test.YtedfcjcnhgomoaaWInv
import Derived.Test.YtedfcjcnhgomoaaWInvWords
import Derived.Test.YtedfcjcnhgomoaaWGuard
import Derived.Test.YtedfcjcnhgomoaaWNEv
import Derived.Test.YtedfcjcnhgomoaaWMore
import Derived.Lib.SlBytesConst
import Derived.Lib.SmallJoins
import Derived.Deep.Upon
import Derived.Deep.RegionWith
import Derived.Lib.Bytes
import GoSem.Claim
import Derived.Outline
import Derived.Deep.Slices
import Derived.ChangeArms
import Derived.OpenShut
import Derived.ShutString
-- MERGED YtedfcjcnhgomoaaPBase
section
-- Written by wip/myprint.py of this session, over the kit's print.py: a Lean function for each Go function, and the proof that the code comes to it.
namespace Go.Proofs.Ytedfcjcnhgomoaa.P
open Go.RowKit Go.Proofs.YtedfcjcnhgomoaaW.PrintWords Go.Proofs.YtedfcjcnhgomoaaW.PrintLast Go.Proofs.YtedfcjcnhgomoaaW.PrintMore
attribute [local go_sem] max2_int min2_int max_two min_two max_three min_three max_four min_four   -- for this text's walks alone
set_option linter.unusedVariables false
set_option linter.unusedSimpArgs false



def errW : Option Int → Value
  | none => .nilIface
  | some c => .iface 0 (.int .i64 c)
theorem errW_none : errW none = .nilIface := rfl
theorem errW_some (c : Int) : errW (some c) = .iface 0 (.int .i64 c) := rfl

theorem V_string {P : Program} {w : World} {base e : Nat} {ok : Nat → Prop} {src dst e2 : TypeId} {v : Value} {xs : List Int} (hs : P.underlying src = some (.slice e2)) (he : P.underlying e2 = some (.int .u8)) (hd : P.underlying dst = some .string) (h : Kd.V (Kd.int .u8) e w base ok v xs) : (convert src dst v).run P w = .ok (.string (strOfNums xs)) w := by
  obtain ⟨A, c, rfl, _, hF⟩ := h
  exact Kd.C_string hs he hd (Kd.F_now hF)
theorem info5 : (Try.prog.info? 5).map (fun i => (i.zero, i.size, i.bytes)) = some (some (.int .u8 0), 1, 1) := by kernel_rfl
theorem info23 : (Try.prog.info? 23).map (fun i => (i.zero, i.size, i.bytes)) = some (some (.agg #[(.int .i64 0), (.int .i64 0), (.int .i64 0), (.string ⟨#[]⟩)]), 4, 40) := by kernel_rfl
theorem info85 : (Try.prog.info? 85).map (fun i => (i.zero, i.size, i.bytes)) = some (some (.agg #[(.int .i64 0), (.string ⟨#[]⟩), (.int .i64 0)]), 3, 32) := by kernel_rfl
theorem info92 : (Try.prog.info? 92).map (fun i => (i.zero, i.size, i.bytes)) = some (some (.int .i64 0), 1, 8) := by kernel_rfl
theorem info104 : (Try.prog.info? 104).map (fun i => (i.zero, i.size, i.bytes)) = some (some (.agg #[(.int .i64 0), (.int .i64 0), (.int .i64 0)]), 3, 24) := by kernel_rfl
-- the values' own types
def rd_L1 (xs : List (List Int)) (i : Int) : (List Int) := xs.getD i.toNat ([] : List Int)
theorem at_L1 {w : World} {A : Option Addr} {n : Nat} {xs : List (List Int)} (h : Kd.C (Kd.slice 5 (Kd.int .u8)) w A n xs) (i : Int) (h0 : 0 ≤ i) (h1 : i < n) : ∃ ad A0 c0, A = some ad ∧ w.cell? (ad.add i.toNat) = some (.slice A0 (rd_L1 xs i).length c0) ∧ (rd_L1 xs i).length ≤ c0 ∧ (Kd.int .u8).C w A0 (rd_L1 xs i).length (rd_L1 xs i) := by
  obtain ⟨ad, c, e, _, hK, hc0⟩ := Kd.C_get h ([] : List Int) i h0 h1
  have hc : ∀ j u, c[j]? = some u → w.cell? (ad.add (i.toNat * 1 + j)) = some u := hc0
  obtain ⟨A0, c0, rfl, l0, g0⟩ := hK
  exact ⟨ad, A0, c0, e, by have hq := hc 0 _ rfl; rwa [Nat.mul_one, Nat.add_zero] at hq, l0, g0⟩

/-! #### struct type 85 -/
structure S85 where
  f0 : Int
  f1 : ByteArray
  f2 : Int
def z85 : S85 := ⟨(0 : Int), (⟨#[]⟩ : ByteArray), (0 : Int)⟩
def k85 : Kd S85 := Kd.iso (Kd.pair (Kd.int .i64) (Kd.pair Kd.string (Kd.int .i64))) (fun x : S85 => (x.f0, x.f1, x.f2))
theorem k85_heap : Kd.Heap k85 := Kd.heap_iso _ (Kd.heap_pair (Kd.heap_int .i64) (Kd.heap_pair Kd.heap_string (Kd.heap_int .i64)))
theorem k85_open {w : World} {x : S85} {cs : List Value} (h : k85.K w x cs) : cs = [.int .i64 x.f0, .string x.f1, .int .i64 x.f2] := by
  obtain ⟨_, _, rfl, rfl, ⟨_, _, rfl, rfl, rfl⟩⟩ := h
  exact rfl
theorem k85_openM {w : World} {base : Nat} {ok : Nat → Prop} {x : S85} {cs : List Value} (h : k85.M w base ok x cs) : cs = [.int .i64 x.f0, .string x.f1, .int .i64 x.f2] := by
  obtain ⟨_, _, rfl, rfl, ⟨_, _, rfl, rfl, rfl⟩⟩ := h
  exact rfl
theorem k85_mk (w : World) (x : S85)  : k85.K w x [.int .i64 x.f0, .string x.f1, .int .i64 x.f2] := ⟨[.int .i64 x.f0], [.string x.f1, .int .i64 x.f2], rfl, rfl, ⟨[.string x.f1], [.int .i64 x.f2], rfl, rfl, rfl⟩⟩
theorem k85_mkM (w : World) (base : Nat) (ok : Nat → Prop) (x : S85)  : k85.M w base ok x [.int .i64 x.f0, .string x.f1, .int .i64 x.f2] := ⟨[.int .i64 x.f0], [.string x.f1, .int .i64 x.f2], rfl, rfl, ⟨[.string x.f1], [.int .i64 x.f2], rfl, rfl, rfl⟩⟩
theorem k85_mkF (W : World) (ok : Nat → Prop) (x : S85) : Kd.FK k85 W ok x [.int .i64 x.f0, .string x.f1, .int .i64 x.f2] := fun W2 _ => k85_mk W2 x
def rd_T85 (xs : List S85) (i : Int) : S85 := xs.getD i.toNat z85
theorem at_T85 {w : World} {A : Option Addr} {n : Nat} {xs : List S85} (h : Kd.C k85 w A n xs) (i : Int) (h0 : 0 ≤ i) (h1 : i < n) : ∃ ad , A = some ad ∧ w.cell? (ad.add (i.toNat * 3)) = some (.int .i64 (rd_T85 xs i).f0) ∧ w.cell? ⟨(ad.add (i.toNat * 3)).block, (ad.add (i.toNat * 3)).off + 1, none⟩ = some (.string (rd_T85 xs i).f1) ∧ w.cell? ⟨(ad.add (i.toNat * 3)).block, (ad.add (i.toNat * 3)).off + 2, none⟩ = some (.int .i64 (rd_T85 xs i).f2) := by
  obtain ⟨ad, c, e, _, hK, hc0⟩ := Kd.C_get h z85 i h0 h1
  have hc : ∀ j u, c[j]? = some u → w.cell? (ad.add (i.toNat * 3 + j)) = some u := hc0
  obtain rfl := k85_open hK
  exact ⟨ad, e, hc 0 _ rfl, by rw [← add_field _ _ 1 (by omega)]; exact hc 1 _ rfl, by rw [← add_field _ _ 2 (by omega)]; exact hc 2 _ rfl⟩

/-! #### struct type 102 -/
structure S102 where
  f0 : Int
  f1 : Int
def z102 : S102 := ⟨(0 : Int), (0 : Int)⟩
def k102 : Kd S102 := Kd.iso (Kd.pair (Kd.int .i64) (Kd.int .i64)) (fun x : S102 => (x.f0, x.f1))
theorem k102_heap : Kd.Heap k102 := Kd.heap_iso _ (Kd.heap_pair (Kd.heap_int .i64) (Kd.heap_int .i64))
theorem k102_open {w : World} {x : S102} {cs : List Value} (h : k102.K w x cs) : cs = [.int .i64 x.f0, .int .i64 x.f1] := by
  obtain ⟨_, _, rfl, rfl, rfl⟩ := h
  exact rfl
theorem k102_openM {w : World} {base : Nat} {ok : Nat → Prop} {x : S102} {cs : List Value} (h : k102.M w base ok x cs) : cs = [.int .i64 x.f0, .int .i64 x.f1] := by
  obtain ⟨_, _, rfl, rfl, rfl⟩ := h
  exact rfl
theorem k102_mk (w : World) (x : S102)  : k102.K w x [.int .i64 x.f0, .int .i64 x.f1] := ⟨[.int .i64 x.f0], [.int .i64 x.f1], rfl, rfl, rfl⟩
theorem k102_mkM (w : World) (base : Nat) (ok : Nat → Prop) (x : S102)  : k102.M w base ok x [.int .i64 x.f0, .int .i64 x.f1] := ⟨[.int .i64 x.f0], [.int .i64 x.f1], rfl, rfl, rfl⟩
theorem k102_mkF (W : World) (ok : Nat → Prop) (x : S102) : Kd.FK k102 W ok x [.int .i64 x.f0, .int .i64 x.f1] := fun W2 _ => k102_mk W2 x
def rd_T102 (xs : List S102) (i : Int) : S102 := xs.getD i.toNat z102
theorem at_T102 {w : World} {A : Option Addr} {n : Nat} {xs : List S102} (h : Kd.C k102 w A n xs) (i : Int) (h0 : 0 ≤ i) (h1 : i < n) : ∃ ad , A = some ad ∧ w.cell? (ad.add (i.toNat * 2)) = some (.int .i64 (rd_T102 xs i).f0) ∧ w.cell? ⟨(ad.add (i.toNat * 2)).block, (ad.add (i.toNat * 2)).off + 1, none⟩ = some (.int .i64 (rd_T102 xs i).f1) := by
  obtain ⟨ad, c, e, _, hK, hc0⟩ := Kd.C_get h z102 i h0 h1
  have hc : ∀ j u, c[j]? = some u → w.cell? (ad.add (i.toNat * 2 + j)) = some u := hc0
  obtain rfl := k102_open hK
  exact ⟨ad, e, hc 0 _ rfl, by rw [← add_field _ _ 1 (by omega)]; exact hc 1 _ rfl⟩

/-! #### struct type 104 -/
structure S104 where
  f0 : S102
  f1 : Int
def z104 : S104 := ⟨z102, (0 : Int)⟩
def k104 : Kd S104 := Kd.iso (Kd.pair k102 (Kd.int .i64)) (fun x : S104 => (x.f0, x.f1))
theorem k104_heap : Kd.Heap k104 := Kd.heap_iso _ (Kd.heap_pair k102_heap (Kd.heap_int .i64))
theorem k104_open {w : World} {x : S104} {cs : List Value} (h : k104.K w x cs) : cs = [.int .i64 x.f0.f0, .int .i64 x.f0.f1, .int .i64 x.f1] := by
  obtain ⟨_, _, rfl, s0, rfl⟩ := h
  obtain rfl := k102_open s0
  exact rfl
theorem k104_openM {w : World} {base : Nat} {ok : Nat → Prop} {x : S104} {cs : List Value} (h : k104.M w base ok x cs) : cs = [.int .i64 x.f0.f0, .int .i64 x.f0.f1, .int .i64 x.f1] := by
  obtain ⟨_, _, rfl, s0, rfl⟩ := h
  obtain rfl := k102_openM s0
  exact rfl
theorem k104_mk (w : World) (x : S104)  : k104.K w x [.int .i64 x.f0.f0, .int .i64 x.f0.f1, .int .i64 x.f1] := ⟨[.int .i64 x.f0.f0, .int .i64 x.f0.f1], [.int .i64 x.f1], rfl, (k102_mk w x.f0 ), rfl⟩
theorem k104_mkM (w : World) (base : Nat) (ok : Nat → Prop) (x : S104)  : k104.M w base ok x [.int .i64 x.f0.f0, .int .i64 x.f0.f1, .int .i64 x.f1] := ⟨[.int .i64 x.f0.f0, .int .i64 x.f0.f1], [.int .i64 x.f1], rfl, (k102_mkM w base ok x.f0 ), rfl⟩
theorem k104_mkF (W : World) (ok : Nat → Prop) (x : S104) : Kd.FK k104 W ok x [.int .i64 x.f0.f0, .int .i64 x.f0.f1, .int .i64 x.f1] := fun W2 _ => k104_mk W2 x
def rd_T104 (xs : List S104) (i : Int) : S104 := xs.getD i.toNat z104
theorem at_T104 {w : World} {A : Option Addr} {n : Nat} {xs : List S104} (h : Kd.C k104 w A n xs) (i : Int) (h0 : 0 ≤ i) (h1 : i < n) : ∃ ad , A = some ad ∧ w.cell? (ad.add (i.toNat * 3)) = some (.int .i64 (rd_T104 xs i).f0.f0) ∧ w.cell? ⟨(ad.add (i.toNat * 3)).block, (ad.add (i.toNat * 3)).off + 1, none⟩ = some (.int .i64 (rd_T104 xs i).f0.f1) ∧ w.cell? ⟨(ad.add (i.toNat * 3)).block, (ad.add (i.toNat * 3)).off + 2, none⟩ = some (.int .i64 (rd_T104 xs i).f1) := by
  obtain ⟨ad, c, e, _, hK, hc0⟩ := Kd.C_get h z104 i h0 h1
  have hc : ∀ j u, c[j]? = some u → w.cell? (ad.add (i.toNat * 3 + j)) = some u := hc0
  obtain rfl := k104_open hK
  exact ⟨ad, e, hc 0 _ rfl, by rw [← add_field _ _ 1 (by omega)]; exact hc 1 _ rfl, by rw [← add_field _ _ 2 (by omega)]; exact hc 2 _ rfl⟩

/-! #### struct type 23 -/
structure S23 where
  f0 : Int
  f1 : Int
  f2 : Int
  f3 : ByteArray
def z23 : S23 := ⟨(0 : Int), (0 : Int), (0 : Int), (⟨#[]⟩ : ByteArray)⟩
def k23 : Kd S23 := Kd.iso (Kd.pair (Kd.int .i64) (Kd.pair (Kd.int .i64) (Kd.pair (Kd.int .i64) Kd.string))) (fun x : S23 => (x.f0, x.f1, x.f2, x.f3))
theorem k23_heap : Kd.Heap k23 := Kd.heap_iso _ (Kd.heap_pair (Kd.heap_int .i64) (Kd.heap_pair (Kd.heap_int .i64) (Kd.heap_pair (Kd.heap_int .i64) Kd.heap_string)))
theorem k23_open {w : World} {x : S23} {cs : List Value} (h : k23.K w x cs) : cs = [.int .i64 x.f0, .int .i64 x.f1, .int .i64 x.f2, .string x.f3] := by
  obtain ⟨_, _, rfl, rfl, ⟨_, _, rfl, rfl, ⟨_, _, rfl, rfl, rfl⟩⟩⟩ := h
  exact rfl
theorem k23_openM {w : World} {base : Nat} {ok : Nat → Prop} {x : S23} {cs : List Value} (h : k23.M w base ok x cs) : cs = [.int .i64 x.f0, .int .i64 x.f1, .int .i64 x.f2, .string x.f3] := by
  obtain ⟨_, _, rfl, rfl, ⟨_, _, rfl, rfl, ⟨_, _, rfl, rfl, rfl⟩⟩⟩ := h
  exact rfl
theorem k23_mk (w : World) (x : S23)  : k23.K w x [.int .i64 x.f0, .int .i64 x.f1, .int .i64 x.f2, .string x.f3] := ⟨[.int .i64 x.f0], [.int .i64 x.f1, .int .i64 x.f2, .string x.f3], rfl, rfl, ⟨[.int .i64 x.f1], [.int .i64 x.f2, .string x.f3], rfl, rfl, ⟨[.int .i64 x.f2], [.string x.f3], rfl, rfl, rfl⟩⟩⟩
theorem k23_mkM (w : World) (base : Nat) (ok : Nat → Prop) (x : S23)  : k23.M w base ok x [.int .i64 x.f0, .int .i64 x.f1, .int .i64 x.f2, .string x.f3] := ⟨[.int .i64 x.f0], [.int .i64 x.f1, .int .i64 x.f2, .string x.f3], rfl, rfl, ⟨[.int .i64 x.f1], [.int .i64 x.f2, .string x.f3], rfl, rfl, ⟨[.int .i64 x.f2], [.string x.f3], rfl, rfl, rfl⟩⟩⟩
theorem k23_mkF (W : World) (ok : Nat → Prop) (x : S23) : Kd.FK k23 W ok x [.int .i64 x.f0, .int .i64 x.f1, .int .i64 x.f2, .string x.f3] := fun W2 _ => k23_mk W2 x
def rd_T23 (xs : List S23) (i : Int) : S23 := xs.getD i.toNat z23
theorem at_T23 {w : World} {A : Option Addr} {n : Nat} {xs : List S23} (h : Kd.C k23 w A n xs) (i : Int) (h0 : 0 ≤ i) (h1 : i < n) : ∃ ad , A = some ad ∧ w.cell? (ad.add (i.toNat * 4)) = some (.int .i64 (rd_T23 xs i).f0) ∧ w.cell? ⟨(ad.add (i.toNat * 4)).block, (ad.add (i.toNat * 4)).off + 1, none⟩ = some (.int .i64 (rd_T23 xs i).f1) ∧ w.cell? ⟨(ad.add (i.toNat * 4)).block, (ad.add (i.toNat * 4)).off + 2, none⟩ = some (.int .i64 (rd_T23 xs i).f2) ∧ w.cell? ⟨(ad.add (i.toNat * 4)).block, (ad.add (i.toNat * 4)).off + 3, none⟩ = some (.string (rd_T23 xs i).f3) := by
  obtain ⟨ad, c, e, _, hK, hc0⟩ := Kd.C_get h z23 i h0 h1
  have hc : ∀ j u, c[j]? = some u → w.cell? (ad.add (i.toNat * 4 + j)) = some u := hc0
  obtain rfl := k23_open hK
  exact ⟨ad, e, hc 0 _ rfl, by rw [← add_field _ _ 1 (by omega)]; exact hc 1 _ rfl, by rw [← add_field _ _ 2 (by omega)]; exact hc 2 _ rfl, by rw [← add_field _ _ 3 (by omega)]; exact hc 3 _ rfl⟩

end Go.Proofs.Ytedfcjcnhgomoaa.P
end
-- MERGED YtedfcjcnhgomoaaPsum32down
section
-- Written by wip/myprint.py of this session, over the kit's print.py: a Lean function for each Go function, and the proof that the code comes to it.
namespace Go.Proofs.Ytedfcjcnhgomoaa.P
open Go.RowKit Go.Proofs.YtedfcjcnhgomoaaW.PrintWords Go.Proofs.YtedfcjcnhgomoaaW.PrintLast Go.Proofs.YtedfcjcnhgomoaaW.PrintMore
attribute [local go_sem] max2_int min2_int max_two min_two max_three min_three max_four min_four   -- for this text's walks alone
set_option linter.unusedVariables false
set_option linter.unusedSimpArgs false

/-! ### sum32_down: function 106 -/
def sum32_down.f (a0 : Int) : Option (Int) := if (Go.bits .and .u32 a0 1) = 1 then (some (Go.bits .xor .u32 (a0 / 2) 2197175160)) else (some (a0 / 2))
set_option maxHeartbeats 8000000 in
set_option maxRecDepth 100000 in
theorem sum32_down.calls (a0 : Int) (r : Int) (w : World) (h : sum32_down.f a0 = some r) :
    Calls Try.prog 106 #[.int .u32 a0] w fun e w' => e = .returned (.int .u32 r) ∧ Drawn0 w w' := by
  have H : (if (Go.bits .and .u32 a0 1) = 1 then (some (Go.bits .xor .u32 (a0 / 2) 2197175160)) else (some (a0 / 2))) = some r := h
  clear h
  by_cases c2 : (Go.bits .and .u32 a0 1) = 1
  · rw [if_pos c2] at H
    have c2b0 : ((Go.bits .and .u32 a0 1) == 1) = true := beq_iff_eq.mpr c2
    have c2b1 : ((Go.bits .and .u32 a0 1) != 1) = false := bne_eq_false_iff_eq.mpr c2
    clear c2
    obtain rfl := Option.some.inj H
    go_enter Try.func106, Try.ntmps106
    go_wp2
    go_ret
    exact ⟨by first | rfl | (simp; done) | (simp [*]; done), by repeat (first | exact Drawn0.refl _ | apply Drawn0.step)⟩
  · rw [if_neg c2] at H
    have c2b0 : ((Go.bits .and .u32 a0 1) == 1) = false := beq_eq_false_iff_ne.mpr c2
    have c2b1 : ((Go.bits .and .u32 a0 1) != 1) = true := bne_iff_ne.mpr c2
    obtain rfl := Option.some.inj H
    go_enter Try.func106, Try.ntmps106
    go_wp2
    go_ret
    exact ⟨by first | rfl | (simp; done) | (simp [*]; done), by repeat (first | exact Drawn0.refl _ | apply Drawn0.step)⟩

end Go.Proofs.Ytedfcjcnhgomoaa.P
end
-- MERGED YtedfcjcnhgomoaaPsum32Sum
section
-- Written by wip/myprint.py of this session, over the kit's print.py: a Lean function for each Go function, and the proof that the code comes to it.
namespace Go.Proofs.Ytedfcjcnhgomoaa.P
open Go.RowKit Go.Proofs.YtedfcjcnhgomoaaW.PrintWords Go.Proofs.YtedfcjcnhgomoaaW.PrintLast Go.Proofs.YtedfcjcnhgomoaaW.PrintMore
attribute [local go_sem] max2_int min2_int max_two min_two max_three min_three max_four min_four   -- for this text's walks alone
set_option linter.unusedVariables false
set_option linter.unusedSimpArgs false

/-! ### sum32_Sum: function 83 -/
mutual
def sum32_Sum.l0 : Nat → Int → List Int → Int → Int → Option (Int)
  | 0, _, _, _, _ => none
  | k + 1, x3, x6, x7, x8 => if x8 < x7 then (if 0 ≤ x8 then (if x8 < (x6.length : Int) then (sum32_Sum.l1 k (Go.bits .xor .u32 x3 ((rd x6 x8) % 4294967296)) x6 x7 x8 0) else (none)) else (none)) else (some (Go.bits .xor .u32 x3 4294967295))
def sum32_Sum.l1 : Nat → Int → List Int → Int → Int → Int → Option (Int)
  | 0, _, _, _, _, _ => none
  | k + 1, x3, x6, x7, x8, x16 => if x16 < 8 then ((sum32_down.f x3).bind fun t104 => (sum32_Sum.l1 k t104 x6 x7 x8 (wrap64 (x16 + 1)))) else (sum32_Sum.l0 k x3 x6 x7 (wrap64 (x8 + 1)))
end
def sum32_Sum.f (k : Nat) (l0 : List Int) : Option (Int) := sum32_Sum.l0 k 4294967295 l0 (l0.length : Int) 0
theorem sum32_Sum.mono_l : ∀ k, (∀ y0 y1 y2 y3, LeO (sum32_Sum.l0 k y0 y1 y2 y3) (sum32_Sum.l0 (k + 1) y0 y1 y2 y3)) ∧ (∀ y0 y1 y2 y3 y4, LeO (sum32_Sum.l1 k y0 y1 y2 y3 y4) (sum32_Sum.l1 (k + 1) y0 y1 y2 y3 y4))
  | 0 => ⟨fun _ _ _ _ r h => by simp [sum32_Sum.l0] at h, fun _ _ _ _ _ r h => by simp [sum32_Sum.l1] at h⟩
  | k + 1 => by
    obtain ⟨ih0, ih1⟩ := sum32_Sum.mono_l k
    refine ⟨?_, ?_⟩
    · intro y0 y1 y2 y3
      unfold sum32_Sum.l0
      repeat' first
      | (with_reducible exact ih0 _ _ _ _)
      | (with_reducible exact ih1 _ _ _ _ _)
      | (with_reducible exact LeO.refl _)
      | (with_reducible exact LeO.none _)
      | (with_reducible refine LeO.ite ?_ ?_)
      | (with_reducible refine LeO.bind ?_ (fun _ => ?_))
      | exact ih0 _ _ _ _
      | exact ih1 _ _ _ _ _
      | exact LeO.none _
      | refine LeO.ite ?_ ?_
      | refine LeO.bind ?_ (fun _ => ?_)
    · intro y0 y1 y2 y3 y4
      unfold sum32_Sum.l1
      repeat' first
      | (with_reducible exact ih0 _ _ _ _)
      | (with_reducible exact ih1 _ _ _ _ _)
      | (with_reducible exact LeO.refl _)
      | (with_reducible exact LeO.none _)
      | (with_reducible refine LeO.ite ?_ ?_)
      | (with_reducible refine LeO.bind ?_ (fun _ => ?_))
      | exact ih0 _ _ _ _
      | exact ih1 _ _ _ _ _
      | exact LeO.none _
      | refine LeO.ite ?_ ?_
      | refine LeO.bind ?_ (fun _ => ?_)
theorem sum32_Sum.mono : ∀ a0 k, LeO (sum32_Sum.f k a0) (sum32_Sum.f (k + 1) a0) := by
  intro a0 k
  obtain ⟨ih0, ih1⟩ := sum32_Sum.mono_l k
  unfold sum32_Sum.f
  repeat' first
      | (with_reducible exact ih0 _ _ _ _)
      | (with_reducible exact ih1 _ _ _ _ _)
      | (with_reducible exact LeO.refl _)
      | (with_reducible exact LeO.none _)
      | (with_reducible refine LeO.ite ?_ ?_)
      | (with_reducible refine LeO.bind ?_ (fun _ => ?_))
      | exact ih0 _ _ _ _
      | exact ih1 _ _ _ _ _
      | exact LeO.none _
      | refine LeO.ite ?_ ?_
      | refine LeO.bind ?_ (fun _ => ?_)
set_option maxHeartbeats 8000000 in
set_option maxRecDepth 100000 in
theorem sum32_Sum.calls (k : Nat) (A0 : Option Addr) (c0 : Nat) (l0 : List Int) (r : Int) (w : World) (hr0 : Kd.C (Kd.int .u8) w A0 l0.length l0) (hc0 : l0.length ≤ c0) (h : sum32_Sum.f k l0 = some r) :
    Calls Try.prog 83 #[.slice A0 l0.length c0] w fun e w' => e = .returned (.int .u32 r) ∧ Drawn0 w w' := by
  have HR0 := Aside0.mk hr0
  have HC0 := Aside0.mk hc0
  clear hr0 hc0
  have H : (sum32_Sum.l0 k 4294967295 l0 (l0.length : Int) 0) = some r := h
  clear h
  have H' := Aside0.mk H
  clear H
  go_enter Try.func83, Try.ntmps83
  go_wp2
  go_loopg [3, 8] k (fun kq v3 v8 w' => ∃ (x3_1 : Int) (x8_1 : Int), v3 = .int .u32 x3_1 ∧ v8 = .int .i64 x8_1 ∧ Aside0 (sum32_Sum.l0 kq x3_1 l0 (l0.length : Int) x8_1 = some r) ∧ Aside0 (kq ≤ k) ∧ Drawn0 w w')
  case atStart => exact ⟨(4294967295), (0), (by first | rfl | (simp; done) | (simp [*]; done)), (by first | rfl | (simp; done) | (simp [*]; done)), H', ⟨Nat.le_refl _⟩, by repeat (first | exact Drawn0.refl _ | apply Drawn0.step)⟩
  case round =>
    clear H'
    obtain ⟨x3_1, x8_1, rfl, rfl, HA, HK1, ⟨m1, rfl⟩⟩ := hrel
    cases gk with
    | zero => exact absurd HA.out (by simp [sum32_Sum.l0])
    | succ k1 =>
      have H := HA.out
      clear HA
      simp only [sum32_Sum.l0] at H
      by_cases c2 : x8_1 < (l0.length : Int)
      · rw [if_pos c2] at H
        have c2b0 : decide (x8_1 < (l0.length : Int)) = true := decide_eq_true c2
        clear c2
        by_cases c3 : 0 ≤ x8_1
        · rw [if_pos c3] at H
          have c3b0 : decide (0 ≤ x8_1) = true := decide_eq_true c3
          clear c3
          by_cases c4 : x8_1 < (l0.length : Int)
          · rw [if_pos c4] at H
            have c4b0 : decide (x8_1 < (l0.length : Int)) = true := decide_eq_true c4
            clear c4
            have H' := Aside0.mk H
            clear H
            have p103 : 0 ≤ (x8_1 : Int) := of_decide_eq_true (by first | (with_reducible assumption) | assumption)
            have q103 : x8_1 < (l0.length : Int) := of_decide_eq_true (by first | (with_reducible assumption) | assumption)
            obtain ⟨ad103, e103, hx103_0⟩ := Kd.at_int HR0.out x8_1 p103 q103
            cases e103
            replace p103 := eq_true p103
            replace q103 := eq_true q103
            go_wp2
            go_loopg [3, 16] k1 (fun kq v3 v16 w' => ∃ (x3_2 : Int) (x16_2 : Int), v3 = .int .u32 x3_2 ∧ v16 = .int .i64 x16_2 ∧ Aside0 (sum32_Sum.l1 kq x3_2 l0 (l0.length : Int) x8_1 x16_2 = some r) ∧ Aside0 (kq ≤ k1) ∧ Drawn0 w w')
            case atStart => exact ⟨(Go.bits .xor .u32 x3_1 ((rd l0 x8_1) % 4294967296)), (0), (by first | rfl | (simp; done) | (simp [*]; done)), (by first | rfl | (simp; done) | (simp [*]; done)), H', ⟨Nat.le_refl _⟩, by repeat (first | exact Drawn0.refl _ | apply Drawn0.step)⟩
            case round =>
              clear H'
              try clear p1
              try clear q1
              try clear hx1
              try clear c2
              try clear c2b0
              try clear p2
              try clear c3
              try clear c3b0
              try clear c4
              try clear c4b0
              try clear hx103_0
              try clear p103
              try clear q103
              obtain ⟨x3_2, x16_2, rfl, rfl, HA, HK2, ⟨m2, rfl⟩⟩ := hrel
              cases gk with
              | zero => exact absurd HA.out (by simp [sum32_Sum.l1])
              | succ k2 =>
                have H := HA.out
                clear HA
                simp only [sum32_Sum.l1] at H
                by_cases c5 : x16_2 < 8
                · rw [if_pos c5] at H
                  have c5b0 : decide (x16_2 < 8) = true := decide_eq_true c5
                  clear c5
                  replace H := Option.bind_eq_some_iff.mp H
                  obtain ⟨t104, A60, H⟩ := H
                  replace H : (sum32_Sum.l1 k2 t104 l0 (l0.length : Int) x8_1 (wrap64 (x16_2 + 1))) = some r := H
                  have A6 := Aside0.mk A60
                  clear A60
                  have H' := Aside0.mk H
                  clear H
                  go_wp2_with (first | ((with_reducible refine gate_callee (f := 106) rfl ?_); refine goesL_ (some 19) rfl rfl Try.func106 (by kernel_rfl) rfl #[.int .u32 x3_2] rfl (by (try simp only [List.map_toArray, List.map_cons, List.map_nil]); first | done | rfl | (simp only [List.length_drop, List.length_take]; rfl)) ?_; (with_reducible refine (sum32_down.calls x3_2 t104 _ A6.out).mono ?_); rintro e w' ⟨rfl, ⟨nd, rfl⟩⟩; refine ⟨_, rfl, ?_⟩))
                  go_roundg k2
                  case measure => have := HK1.out; have := HK2.out; omega
                  case rel => exact ⟨(t104), (wrap64 (x16_2 + 1)), (by first | rfl | (simp; done) | (simp [*]; done)), (by first | rfl | (simp; done) | (simp [*]; done)), H', ⟨by have := HK1.out; have := HK2.out; omega⟩, by repeat (first | exact Drawn0.refl _ | apply Drawn0.step)⟩
                · rw [if_neg c5] at H
                  have c5b0 : decide (x16_2 < 8) = false := decide_eq_false c5
                  clear c5
                  have H' := Aside0.mk H
                  clear H
                  go_wp2
                  go_roundg k2
                  case measure => have := HK1.out; have := HK2.out; omega
                  case rel => exact ⟨(x3_2), (wrap64 (x8_1 + 1)), (by first | rfl | (simp; done) | (simp [*]; done)), (by first | rfl | (simp; done) | (simp [*]; done)), H', ⟨by have := HK1.out; have := HK2.out; omega⟩, by repeat (first | exact Drawn0.refl _ | apply Drawn0.step)⟩
          · rw [if_neg c4] at H
            exact absurd H (by simp)
        · rw [if_neg c3] at H
          exact absurd H (by simp)
      · rw [if_neg c2] at H
        have c2b0 : decide (x8_1 < (l0.length : Int)) = false := decide_eq_false c2
        clear c2
        obtain rfl := Option.some.inj H
        go_wp2
        go_ret
        exact ⟨by first | rfl | (simp; done) | (simp [*]; done), by repeat (first | exact Drawn0.refl _ | apply Drawn0.step)⟩

end Go.Proofs.Ytedfcjcnhgomoaa.P
end
-- MERGED YtedfcjcnhgomoaaCrc
section
/- The plain law of the check sum: one step over bits, its linearity and that it is undone; no program in sight. -/
namespace Go.Proofs.Ytedfcjcnhgomoaa.Crc

/-- One bit goes down. -/
def dn (x : BitVec 32) : BitVec 32 := if x.getLsbD 0 then (x >>> 1) ^^^ 0x82F63B78#32 else x >>> 1

theorem dn_zero : dn 0#32 = 0#32 := by decide

theorem xor_swap (a b c d : BitVec 32) : a ^^^ b ^^^ (c ^^^ d) = a ^^^ c ^^^ (b ^^^ d) := by
  rw [BitVec.xor_assoc, ← BitVec.xor_assoc b, BitVec.xor_comm b c, BitVec.xor_assoc c, ← BitVec.xor_assoc]

theorem dn_xor (x y : BitVec 32) : dn (x ^^^ y) = dn x ^^^ dn y := by
  unfold dn
  have h : (x ^^^ y).getLsbD 0 = (x.getLsbD 0 ^^ y.getLsbD 0) := BitVec.getLsbD_xor
  have hs : (x ^^^ y) >>> 1 = (x >>> 1) ^^^ (y >>> 1) := BitVec.ushiftRight_xor_distrib x y 1
  rw [h, hs]
  cases x.getLsbD 0 <;> cases y.getLsbD 0 <;> simp
  · rw [BitVec.xor_assoc]
  · rw [BitVec.xor_assoc, BitVec.xor_comm (y >>> 1), ← BitVec.xor_assoc]
  · rw [xor_swap]; simp

theorem dn_inj0 (x : BitVec 32) (h : dn x = 0#32) : x = 0#32 := by
  unfold dn at h
  cases hx : x.getLsbD 0 with
  | true =>
    rw [hx] at h
    simp at h
    have e : (x >>> 1) = 0x82F63B78#32 := by
      have := congrArg (· ^^^ 0x82F63B78#32) h
      simpa [BitVec.xor_assoc] using this
    have b := congrArg (fun z => z.getLsbD 31) e
    simp at b
  | false =>
    rw [hx] at h
    simp at h
    apply BitVec.eq_of_getLsbD_eq
    intro i hi
    cases i with
    | zero => rw [hx]; simp
    | succ i =>
      have b := congrArg (fun z => z.getLsbD i) h
      simp [BitVec.getLsbD_ushiftRight] at b
      rw [Nat.add_comm 1 i] at b
      rw [b]; simp

/-- So many bits go down. -/
def dns : Nat → BitVec 32 → BitVec 32
  | 0, x => x
  | k + 1, x => dns k (dn x)

theorem dns_zero (k : Nat) : dns k 0#32 = 0#32 := by
  induction k with
  | zero => rfl
  | succ k ih => rw [dns, dn_zero, ih]
theorem dns_xor (k : Nat) : ∀ x y, dns k (x ^^^ y) = dns k x ^^^ dns k y := by
  induction k with
  | zero => intro x y; rfl
  | succ k ih => intro x y; rw [dns, dn_xor, ih]; rfl
theorem dns_add (j k : Nat) : ∀ x, dns (j + k) x = dns k (dns j x) := by
  induction j with
  | zero => intro x; rw [Nat.zero_add]; rfl
  | succ j ih => intro x; rw [Nat.add_right_comm, dns, ih]; rfl
theorem dns_inj0 (k : Nat) : ∀ x, dns k x = 0#32 → x = 0#32 := by
  induction k with
  | zero => intro x h; exact h
  | succ k ih => intro x h; exact dn_inj0 x (ih _ h)
theorem xor_eq_zero {x y : BitVec 32} (h : x ^^^ y = 0#32) : x = y := by
  have := congrArg (· ^^^ y) h
  simpa [BitVec.xor_assoc] using this
theorem dns_inj (k : Nat) (x y : BitVec 32) (h : dns k x = dns k y) : x = y :=
  xor_eq_zero (dns_inj0 k _ (by rw [dns_xor, h]; simp))

/-- A byte comes. -/
def step (x : BitVec 32) (c : Int) : BitVec 32 := dns 8 (x ^^^ BitVec.ofInt 32 c)
def ones : BitVec 32 := 0xFFFFFFFF#32
def run (x : BitVec 32) (l : List Int) : BitVec 32 := l.foldl step x
def sum (l : List Int) : BitVec 32 := run ones l ^^^ ones

/-- A sum's four bytes, the least first. -/
def le4 (x : BitVec 32) : List Int := [(x.toNat : Int) % 256, (x.toNat : Int) / 256 % 256, (x.toNat : Int) / 65536 % 256, (x.toNat : Int) / 16777216]

/-- The model's xor of two numbers of 32 bits. -/
theorem bits_xor (u v : BitVec 32) : Go.bits .xor .u32 (u.toNat : Int) (v.toNat : Int) = ((u ^^^ v).toNat : Int) := by
  have h : ∀ n : Nat, n < 2 ^ 32 → IntKind.u32.wrap (n : Int) = n := by
    intro n hn; rw [IntKind.wrap_u32]; omega
  have e : ∀ z : BitVec 32, BitVec.ofInt 32 (z.toNat : Int) = z := by
    intro z; rw [BitVec.ofInt_natCast]; simp
  simp only [bits]
  show IntKind.u32.wrap (((BitVec.ofInt 32 (u.toNat : Int)) ^^^ (BitVec.ofInt 32 (v.toNat : Int))).toNat : Int) = _
  rw [e, e, h _ (u ^^^ v).isLt]
theorem bits_and1 (u : BitVec 32) : Go.bits .and .u32 (u.toNat : Int) 1 = if u.getLsbD 0 then 1 else 0 := by
  have h := bits_mask .u32 32 (by decide) (fun n h0 h1 => by rw [IntKind.wrap_u32]; omega) 1 (by decide) (u.toNat : Int) (by omega) (by have := u.isLt; omega)
  have h' : Go.bits .and .u32 (u.toNat : Int) 1 = (u.toNat : Int) % 2 := by simpa using h
  rw [h']
  have : u.getLsbD 0 = decide (u.toNat % 2 = 1) := by
    simp [BitVec.getLsbD, Nat.testBit_zero]
  rw [this]
  by_cases c : u.toNat % 2 = 1
  · simp [c]; omega
  · simp [c]; omega
theorem half (u : BitVec 32) : (u.toNat : Int) / (2 : Int) = ((u >>> 1).toNat : Int) := by
  rw [BitVec.toNat_ushiftRight, Nat.shiftRight_eq_div_pow]; omega
theorem ofInt_mod (c : Int) : c % 4294967296 = ((BitVec.ofInt 32 c).toNat : Int) := by
  rw [BitVec.toNat_ofInt]; omega

theorem xor_self_left (a b : BitVec 32) : a ^^^ (a ^^^ b) = b := by rw [← BitVec.xor_assoc]; simp

theorem run_nil (x : BitVec 32) : run x [] = x := rfl
theorem run_cons (x : BitVec 32) (c : Int) (l : List Int) : run x (c :: l) = run (step x c) l := rfl
theorem run_append (x : BitVec 32) (l m : List Int) : run x (l ++ m) = run (run x l) m := List.foldl_append
theorem step_xor (x y : BitVec 32) (c : Int) : step (x ^^^ y) c = step x c ^^^ dns 8 y := by
  unfold step; rw [BitVec.xor_assoc, BitVec.xor_comm y, ← BitVec.xor_assoc, dns_xor]
theorem run_xor (l : List Int) : ∀ x y, run (x ^^^ y) l = run x l ^^^ dns (8 * l.length) y := by
  induction l with
  | nil => intro x y; rfl
  | cons c l ih =>
    intro x y
    rw [run_cons, run_cons, step_xor, ih, List.length_cons, show 8 * (l.length + 1) = 8 + 8 * l.length by omega, dns_add]

/-- Four bytes, one behind the other, are the number that they spell. -/
theorem dn_even (x : BitVec 32) (h : x.getLsbD 0 = false) : dn x = x >>> 1 := by unfold dn; rw [h]; rfl
theorem dns_shift : ∀ (k : Nat) (x : BitVec 32), (∀ i, i < k → x.getLsbD i = false) → dns k x = x >>> k := by
  intro k
  induction k with
  | zero => intro x _; simp [dns]
  | succ k ih =>
    intro x h
    rw [dns, dn_even x (h 0 (by omega)), ih]
    · rw [← BitVec.shiftRight_add, Nat.add_comm]
    · intro i hi
      rw [BitVec.getLsbD_ushiftRight]
      exact h (1 + i) (by omega)
theorem part (y : BitVec 32) (s : Nat) (hs : s ≤ 24) (c : Int) (hc : c = (y.toNat : Int) / (2 ^ s : Nat) % 256) (m : BitVec 32) (hm : m = BitVec.ofInt 32 c <<< s) : dns s m = BitVec.ofInt 32 c := by
  subst hm
  rw [dns_shift]
  · apply BitVec.eq_of_toNat_eq
    rw [BitVec.toNat_ushiftRight, BitVec.toNat_shiftLeft, Nat.shiftRight_eq_div_pow, Nat.shiftLeft_eq]
    have hb : (BitVec.ofInt 32 c).toNat < 256 := by rw [BitVec.toNat_ofInt]; omega
    have h1 : (BitVec.ofInt 32 c).toNat * 2 ^ s < 2 ^ 32 := by
      have : 2 ^ s ≤ 2 ^ 24 := Nat.pow_le_pow_right (by decide) hs
      have h2 : (BitVec.ofInt 32 c).toNat * 2 ^ s ≤ 255 * 2 ^ 24 := Nat.mul_le_mul (by omega) this
      omega
    rw [Nat.mod_eq_of_lt h1, Nat.mul_div_cancel _ (Nat.two_pow_pos s)]
  · intro i hi
    rw [BitVec.getLsbD_shiftLeft]
    simp [hi]
theorem low4 (y : BitVec 32) : dns 8 (dns 8 (dns 8 (dns 8 (BitVec.ofInt 32 ((y.toNat : Int) % 256)) ^^^ BitVec.ofInt 32 ((y.toNat : Int) / 256 % 256)) ^^^ BitVec.ofInt 32 ((y.toNat : Int) / 65536 % 256)) ^^^ BitVec.ofInt 32 ((y.toNat : Int) / 16777216)) = dns 32 y := by
  have hy := y.isLt
  have p0 := part y 0 (by decide) ((y.toNat : Int) % 256) (by simp) _ rfl
  have p1 := part y 8 (by decide) ((y.toNat : Int) / 256 % 256) (by rfl) _ rfl
  have p2 := part y 16 (by decide) ((y.toNat : Int) / 65536 % 256) (by rfl) _ rfl
  have p3 := part y 24 (by decide) ((y.toNat : Int) / 16777216) (by have : ((2 ^ 24 : Nat) : Int) = 16777216 := by decide
                                                                    rw [this]; omega) _ rfl
  have hsum : BitVec.ofInt 32 ((y.toNat : Int) % 256) <<< 0 ^^^ BitVec.ofInt 32 ((y.toNat : Int) / 256 % 256) <<< 8 ^^^ BitVec.ofInt 32 ((y.toNat : Int) / 65536 % 256) <<< 16 ^^^ BitVec.ofInt 32 ((y.toNat : Int) / 16777216) <<< 24 = y := by
    have e0 : BitVec.ofInt 32 ((y.toNat : Int) % 256) = y &&& 0xFF#32 := by
      apply BitVec.eq_of_toNat_eq
      rw [BitVec.toNat_ofInt, BitVec.toNat_and]
      have : y.toNat &&& 255 = y.toNat % 256 := Nat.and_two_pow_sub_one_eq_mod y.toNat 8
      show _ = y.toNat &&& 255
      rw [this]; omega
    have eS : ∀ s : Nat, BitVec.ofInt 32 ((y.toNat : Int) / (2 ^ s : Nat) % 256) = (y >>> s) &&& 0xFF#32 := by
      intro s
      apply BitVec.eq_of_toNat_eq
      rw [BitVec.toNat_ofInt, BitVec.toNat_and, BitVec.toNat_ushiftRight, Nat.shiftRight_eq_div_pow]
      have : (y.toNat / 2 ^ s) &&& 255 = (y.toNat / 2 ^ s) % 256 := Nat.and_two_pow_sub_one_eq_mod _ 8
      show _ = (y.toNat / 2 ^ s) &&& 255
      rw [this, ← Int.natCast_ediv]
      omega
    have e1 : BitVec.ofInt 32 ((y.toNat : Int) / 256 % 256) = (y >>> 8) &&& 0xFF#32 := eS 8
    have e2 : BitVec.ofInt 32 ((y.toNat : Int) / 65536 % 256) = (y >>> 16) &&& 0xFF#32 := eS 16
    have e3 : BitVec.ofInt 32 ((y.toNat : Int) / 16777216) = (y >>> 24) &&& 0xFF#32 := by
      rw [← eS 24]
      congr 1
      have : ((2 ^ 24 : Nat) : Int) = 16777216 := by decide
      rw [this]; omega
    rw [e0, e1, e2, e3]
    apply BitVec.eq_of_getLsbD_eq
    intro i hi
    simp only [BitVec.getLsbD_xor, BitVec.getLsbD_shiftLeft, BitVec.getLsbD_and, BitVec.getLsbD_ushiftRight]
    have hff : ∀ j, (0xFF#32).getLsbD j = decide (j < 8) := by
      intro j
      by_cases hj : j < 32
      · have : ∀ k : Fin 32, (0xFF#32).getLsbD k.val = decide (k.val < 8) := by decide
        exact this ⟨j, hj⟩
      · rw [BitVec.getLsbD_of_ge _ _ (by omega)]; simp; omega
    simp only [hff]
    by_cases h8 : i < 8
    · simp [h8, show i < 16 by omega, show i < 24 by omega, hi]
    · by_cases h16 : i < 16
      · simp [h8, h16, show i < 24 by omega, hi, show i - 8 < 8 by omega, show 8 + (i - 8) = i by omega]
      · by_cases h24 : i < 24
        · simp [h8, h16, h24, hi, show ¬ i - 8 < 8 by omega, show i - 16 < 8 by omega, show 16 + (i - 16) = i by omega]
        · simp [h8, h16, h24, hi, show ¬ i - 8 < 8 by omega, show ¬ i - 16 < 8 by omega, show i - 24 < 8 by omega, show 24 + (i - 24) = i by omega]
  rw [← p1, ← p2, ← p3]
  rw [← p0]
  conv => rhs; rw [← hsum]
  simp only [dns_xor, show (32 : Nat) = 8 + 8 + 8 + 8 from rfl, show (16 : Nat) = 8 + 8 from rfl, show (24 : Nat) = 8 + 8 + 8 from rfl, dns_add]
  rfl
/-- A bit alone goes down to the lowest place. -/
theorem dns_bit : ∀ b : Nat, b ≤ 31 → dns b (BitVec.twoPow 32 b) = 1#32 := by
  intro b hb
  induction b with
  | zero => rfl
  | succ b ih =>
    rw [dns]
    have e : dn (BitVec.twoPow 32 (b + 1)) = BitVec.twoPow 32 b := by
      unfold dn
      have h0 : (BitVec.twoPow 32 (b + 1)).getLsbD 0 = false := by
        rw [BitVec.getLsbD_twoPow]; simp
      rw [h0]
      simp only [Bool.false_eq_true, if_false]
      apply BitVec.eq_of_toNat_eq
      rw [BitVec.toNat_ushiftRight, BitVec.toNat_twoPow, BitVec.toNat_twoPow, Nat.shiftRight_eq_div_pow]
      have h1 : 2 ^ (b + 1) < 2 ^ 32 := Nat.pow_lt_pow_right (by decide) (by omega)
      have h2 : 2 ^ b < 2 ^ 32 := Nat.pow_lt_pow_right (by decide) (by omega)
      rw [Nat.mod_eq_of_lt h1, Nat.mod_eq_of_lt h2, Nat.pow_succ]
      omega
    rw [e, ih (by omega)]
/-- A byte's bit is turned: what becomes of the run. -/
theorem run_flip (l : List Int) (j : Nat) (h : j < l.length) (c : Int) (e : BitVec 32) (hc : BitVec.ofInt 32 c = BitVec.ofInt 32 l[j] ^^^ e) (x : BitVec 32) :
    run x (l.set j c) = run x l ^^^ dns (8 * (l.length - j)) e := by
  have h1 : l.set j c = l.take j ++ c :: l.drop (j + 1) := by rw [List.set_eq_take_append_cons_drop, if_pos h]
  have h2 : l = l.take j ++ l[j] :: l.drop (j + 1) := by rw [List.getElem_cons_drop, List.take_append_drop]
  have h3 : run x l = run x (l.take j ++ l[j] :: l.drop (j + 1)) := by rw [← h2]
  rw [h1, h3, run_append, run_append, run_cons, run_cons]
  have h4 : step (run x (l.take j)) c = step (run x (l.take j)) l[j] ^^^ dns 8 e := by
    unfold step
    rw [hc, ← BitVec.xor_assoc, dns_xor]
  rw [h4, run_xor, List.length_drop, ← dns_add]
  congr 2
  omega
theorem ofInt_of_nat (n : Nat) : BitVec.ofInt 32 (n : Int) = BitVec.ofNat 32 n := BitVec.ofInt_natCast _ _
theorem xor_cancel {a b c : BitVec 32} (h : a ^^^ b = a ^^^ c) : b = c := by
  have := congrArg (a ^^^ ·) h
  simpa [← BitVec.xor_assoc] using this
/-- What is sealed runs to one state, whatever it is. -/
theorem run_sealed (l : List Int) : run ones (l ++ le4 (sum l)) = dns 32 ones := by
  have key : ∀ x y : BitVec 32, run x (le4 y) = dns 32 (x ^^^ y) := by
    intro x y
    unfold le4
    rw [run_cons, run_cons, run_cons, run_cons, run_nil]
    unfold step
    have hy := y.isLt
    obtain ⟨b0, b1, b2, b3, h0, h1, h2, h3, hall⟩ : ∃ b0 b1 b2 b3 : BitVec 32, BitVec.ofInt 32 ((y.toNat : Int) % 256) = b0 ∧ BitVec.ofInt 32 ((y.toNat : Int) / 256 % 256) = b1 ∧ BitVec.ofInt 32 ((y.toNat : Int) / 65536 % 256) = b2 ∧ BitVec.ofInt 32 ((y.toNat : Int) / 16777216) = b3 ∧
        (dns 8 (dns 8 (dns 8 (dns 8 b0 ^^^ b1) ^^^ b2) ^^^ b3) = dns 32 y) := ⟨_, _, _, _, rfl, rfl, rfl, rfl, low4 y⟩
    rw [h0, h1, h2, h3]
    have e : dns 8 (dns 8 (dns 8 (dns 8 (x ^^^ b0) ^^^ b1) ^^^ b2) ^^^ b3) = dns 32 x ^^^ dns 8 (dns 8 (dns 8 (dns 8 b0 ^^^ b1) ^^^ b2) ^^^ b3) := by
      simp only [dns_xor, show (32 : Nat) = 8 + 8 + 8 + 8 from rfl, dns_add, BitVec.xor_assoc]
    rw [e, hall, ← dns_xor]
  rw [run_append, key]
  unfold sum
  rw [xor_self_left]

end Go.Proofs.Ytedfcjcnhgomoaa.Crc
end
-- MERGED YtedfcjcnhgomoaaSum
section
/- What the printed functions of the check sum come to: the plain sum over bits (Crc). -/
namespace Go.Proofs.Ytedfcjcnhgomoaa.SumF
open Go.RowKit Go.Proofs.Ytedfcjcnhgomoaa.P Go.Proofs.YtedfcjcnhgomoaaW.PrintWords Go.Proofs.YtedfcjcnhgomoaaW.PrintLast Go.Proofs.Ytedfcjcnhgomoaa.Crc

theorem down_f (x : BitVec 32) : sum32_down.f (x.toNat : Int) = some ((dn x).toNat : Int) := by
  unfold sum32_down.f
  rw [bits_and1, half, show (2197175160 : Int) = ((0x82F63B78#32).toNat : Int) from rfl, bits_xor]
  unfold dn
  cases x.getLsbD 0 <;> simp

theorem l1_eq (K : Nat) (x : Int) (L : List Int) (n i j : Int) : sum32_Sum.l1 (K + 1) x L n i j = if j < 8 then ((sum32_down.f x).bind fun t102 => (sum32_Sum.l1 K t102 L n i (wrap64 (j + 1)))) else (sum32_Sum.l0 K x L n (wrap64 (i + 1))) := by
  rw [sum32_Sum.l1]
theorem w1 (j : Nat) (h : j ≤ 140737488355328) : wrap64 ((j : Int) + 1) = ((j + 1 : Nat) : Int) := by unfold wrap64; omega
theorem l1_run (L : List Int) (n i : Int) : ∀ (m j : Nat) (x : BitVec 32) (k : Nat), j + m = 8 →
    sum32_Sum.l1 (k + m + 1) (x.toNat : Int) L n i (j : Int) = sum32_Sum.l0 k ((dns m x).toNat : Int) L n (wrap64 (i + 1)) := by
  intro m
  induction m with
  | zero =>
    intro j x k h
    have hj : ¬ (j : Int) < 8 := by omega
    rw [l1_eq, if_neg hj]
    rfl
  | succ m ih =>
    intro j x k h
    have hj : (j : Int) < 8 := by omega
    have h1 := ih (j + 1) (dn x) k (by omega)
    rw [l1_eq, if_pos hj, down_f, w1 j (by omega)]
    exact h1

theorem l0_run (L : List Int) (hL : L.length ≤ 140737488355328) : ∀ (d i k : Nat) (x : BitVec 32), i + d = L.length →
    sum32_Sum.l0 (k + 10 * d + 1) (x.toNat : Int) L (L.length : Int) (i : Int) = some ((run x (L.drop i) ^^^ ones).toNat : Int) := by
  intro d
  induction d with
  | zero =>
    intro i k x h
    rw [sum32_Sum.l0, if_neg (by omega), List.drop_of_length_le (by omega), run_nil, show (4294967295 : Int) = (ones.toNat : Int) from rfl, bits_xor]
  | succ d ih =>
    intro i k x h
    have e : k + 10 * (d + 1) + 1 = ((k + 10 * d + 1) + 8 + 1) + 1 := by omega
    rw [e]
    rw [sum32_Sum.l0, if_pos (by omega), if_pos (by omega), if_pos (by omega), ofInt_mod, bits_xor]
    have h1 := l1_run L (L.length : Int) (i : Int) 8 0 (x ^^^ BitVec.ofInt 32 (rd L (i : Int))) (k + 10 * d + 1) (by omega)
    simp only [Int.natCast_zero] at h1
    rw [h1, w1 i (by omega), ih (i + 1) k _ (by omega)]
    rw [List.drop_eq_getElem_cons (show i < L.length by omega), run_cons]
    have : rd L (i : Int) = L[i]'(by omega) := by
      unfold rd
      rw [Int.toNat_natCast, List.getD_eq_getElem?_getD, List.getElem?_eq_getElem (by omega)]; rfl
    rw [this]; rfl

theorem sum_f (L : List Int) (hL : L.length ≤ 140737488355328) (k : Nat) (hk : 10 * L.length + 1 ≤ k) : sum32_Sum.f k L = some ((sum L).toNat : Int) := by
  unfold sum32_Sum.f
  have h := l0_run L hL L.length 0 (k - (10 * L.length + 1)) ones (by omega)
  have e : k - (10 * L.length + 1) + 10 * L.length + 1 = k := by omega
  rw [e, List.drop_zero] at h
  exact h
theorem sum_some (L : List Int) (hL : L.length ≤ 140737488355328) : ∃ k, sum32_Sum.f k L = some ((sum L).toNat : Int) := ⟨_, sum_f L hL _ (Nat.le_refl _)⟩

theorem sum_nil : sum [] = 0#32 := by decide
theorem sum_nine : (sum [49, 50, 51, 52, 53, 54, 55, 56, 57]).toNat = 3808858755 := by decide +kernel

end Go.Proofs.Ytedfcjcnhgomoaa.SumF
end
-- MERGED YtedfcjcnhgomoaaOwn
section
/- Small words of this session's own, beside the print's: rows that lie in a block that is known whole. -/
namespace Go.Proofs.Ytedfcjcnhgomoaa.Own
open Go.RowKit Go.Proofs.YtedfcjcnhgomoaaW.PrintWords Go.Proofs.YtedfcjcnhgomoaaW.PrintLast Go.Proofs.YtedfcjcnhgomoaaW.PrintMore

/-- A row whose elements' cells lie in a block that is known. -/
theorem C_of_block {α : Type} (d : Kd α) {W : World} {g : Nat} {C : Array Value} {t : TypeId} {fr : Nat × Nat} {xs : List α} {inner : List Value} (h : W.heap[g]? = some (.cells C t fr))
    (hr : Reps (d.K W) d.sz xs inner) (hC : ∀ (j : Nat) (u : Value), inner[j]? = some u → C[j]? = some u) (hm : xs.length ≤ 9223372036854775807) : Kd.C d W (some ⟨g, 0, none⟩) xs.length xs := by
  refine ⟨rfl, hm, fun _ => ⟨_, rfl, fun j p hj => ?_⟩⟩
  refine ⟨(inner.drop (j * d.sz)).take d.sz, ?_, hr.2 j p hj, fun i u hu => ?_⟩
  · exact d.K_len (hr.2 j p hj)
  · have hl : i < d.sz := by
      have := (List.getElem?_eq_some_iff.1 hu).1
      rw [List.length_take] at this
      omega
    rw [List.getElem?_take_of_lt hl, List.getElem?_drop] at hu
    rw [add_plain, World.cell?, h]
    simp only []
    exact hC _ _ hu

theorem reps_nums (k : IntKind) (W : World) (xs : List Int) : Reps ((Kd.int k).K W) (Kd.int k).sz xs (nums k xs) := by
  refine ⟨by rw [nums_length]; exact (Nat.mul_one _).symm, fun j p hj => ?_⟩
  show ((nums k xs).drop (j * 1)).take 1 = [.int k p]
  rw [Nat.mul_one]
  have h1 : (nums k xs)[j]? = some (.int k p) := by simp [nums, hj]
  obtain ⟨hl, he⟩ := List.getElem?_eq_some_iff.1 h1
  rw [List.drop_eq_getElem_cons hl, he]
  rfl

theorem C_of_nums (k : IntKind) {W : World} {g : Nat} {C : Array Value} {t : TypeId} {fr : Nat × Nat} (xs : List Int) (h : W.heap[g]? = some (.cells C t fr)) (hC : ∀ (j : Nat) (u : Value), (nums k xs)[j]? = some u → C[j]? = some u)
    (hm : xs.length ≤ 9223372036854775807) : Kd.C (Kd.int k) W (some ⟨g, 0, none⟩) xs.length xs := C_of_block (Kd.int k) h (reps_nums k W xs) hC hm

theorem C_of_lit (k : IntKind) {W : World} {g : Nat} {C : Array Value} {t : TypeId} {fr : Nat × Nat} (xs : List Int) (h : W.heap[g]? = some (.cells C t fr)) (hC : C.toList = nums k xs)
    (hm : xs.length ≤ 9223372036854775807) : Kd.C (Kd.int k) W (some ⟨g, 0, none⟩) xs.length xs := C_of_nums k xs h (fun j u hu => by rw [← hC, Array.getElem?_toList] at hu; exact hu) hm

theorem nums_at {k : IntKind} {xs : List Int} {j : Nat} {u : Value} (h : (nums k xs)[j]? = some u) : ∃ x, xs[j]? = some x ∧ u = .int k x := by
  rw [nums, List.getElem?_map] at h
  cases e : xs[j]? with
  | none => rw [e] at h; cases h
  | some x => rw [e] at h; exact ⟨x, rfl, (Option.some.inj h).symm⟩
/-- The cells of a row of numbers that is read. -/
theorem C_cells {k : IntKind} {w : World} {A : Option Addr} {n : Nat} {xs : List Int} (h : Kd.C (Kd.int k) w A n xs) (b : Addr) (hb : A = some b) (j : Nat) (u : Value) (hu : (nums k xs)[j]? = some u) : w.cell? (b.add j) = some u := by
  obtain ⟨x, hx, rfl⟩ := nums_at hu
  have hl := (List.getElem?_eq_some_iff.1 hx).1
  obtain ⟨ad, e, hc⟩ := h.2.2 (by rw [← h.1]; omega)
  rw [hb] at e
  obtain rfl := Option.some.inj e
  obtain ⟨c, _, hr, hcell⟩ := hc j x hx
  have hc1 : c = [.int k x] := hr
  subst hc1
  have := hcell 0 _ rfl
  rwa [show j * (Kd.int k).sz + 0 = j from Nat.mul_one j] at this
theorem C_none {k : IntKind} {w : World} {A : Option Addr} {n : Nat} {xs : List Int} (h : Kd.C (Kd.int k) w A n xs) (hA : A = none) : n = 0 := by
  rcases Nat.eq_zero_or_pos n with e | e
  · exact e
  · obtain ⟨ad, e2, _⟩ := h.2.2 e
    rw [hA] at e2; cases e2

theorem C_take {α : Type} {d : Kd α} {w : World} {A : Option Addr} {n : Nat} {xs : List α} (h : Kd.C d w A n xs) (m : Nat) (hm : m ≤ n) : Kd.C d w A m (xs.take m) := by
  refine ⟨by rw [List.length_take, h.1]; omega, by have := h.2.1; omega, fun hp => ?_⟩
  obtain ⟨ad, e, hc⟩ := h.2.2 (by omega)
  refine ⟨ad, e, fun j p hj => hc j p ?_⟩
  have hl : j < m := by
    have := (List.getElem?_eq_some_iff.1 hj).1
    rw [List.length_take] at this
    omega
  rwa [List.getElem?_take_of_lt hl] at hj
/-- An append of numbers to a slice that is full ('b[:len(b):len(b)]'): the answer lies in new memory. -/
theorem append_full {P : Program} {w : World} {ops : Array Oper} {rest : List Oper} {o : Oper} {a : Act} {Q : Exit → Act → World → Prop} (k : IntKind)
    (hg : o.guard = none) (s x : Operand) (t e : TypeId) (bytes : Nat) (hop : o.op = Op.call { callee := Callee.builtin Builtin.append, args := #[s, x], argTypes := #[t, t] })
    (h1 : P.underlying t = some (.slice e)) (hi : (P.info? e).map (fun i => (i.zero, i.size, i.bytes)) = some (some (.int k 0), 1, bytes))
    (A : Option Addr) (n : Nat) (xs : List Int) (hs : a.eval s = .slice A n n) (hx : Kd.C (Kd.int k) w A n xs)
    (A2 : Option Addr) (m c2 : Nat) (ys : List Int) (he2 : a.eval x = .slice A2 m c2) (hy : Kd.C (Kd.int k) w A2 m ys) (hm : 0 < m)
    (b1 : n + m ≤ maxLen) (b2 : (n + m) * bytes ≤ 140737488355328)
    (hK : ∀ v' w', Kd.R (Kd.int k) e w' w.heap.size (fun _ => True) v' (xs ++ ys) → Below w.heap.size w w' → wpList P ops Q rest (a.put o.dst v') w') :
    wpList P ops Q (o :: rest) a w := by
  obtain ⟨i0, hi0, hz0, hz1, hz2⟩ := info_parts hi
  obtain ⟨ad, hA2, _⟩ := hy.2.2 hm
  subst hA2
  refine wpList_append_grows w hg s x t hop e i0 (.int k 0) 1 bytes h1 hi0 hz0 hz1 hz2 rfl (by decide) A n n (nums k xs) hs (fun hA => ⟨C_none hx hA, C_none hx hA⟩) (by rw [nums_length, hx.1]; omega)
    (fun b hb j u hu => C_cells hx b hb j u hu) ad m c2 (nums k ys) he2 (by rw [nums_length, hy.1]; omega) (fun j u hu => C_cells hy ad rfl j u hu)
    (fun u hu => by
      rw [nums, List.mem_map] at hu
      obtain ⟨z, _, rfl⟩ := hu
      rfl) (by omega) b1 b2 ?_
  intro v' w' ho hgr
  refine hK v' w' (Kd.R_of_own ?_ (fun _ _ => trivial)) ((Below.refl _ w).grown hgr (Nat.le_refl _) (fun k e => by cases e))
  have e1 : (xs ++ ys).length = n + m := by rw [List.length_append, hx.1, hy.1]
  have e2 : encs (Value.int k) (xs ++ ys) = nums k xs ++ nums k ys := by rw [encs_append]; rfl
  rw [e1, e2]
  exact ho

theorem below_after {B n : Nat} {w W w' : World} (h : Below B w W) (hb : Below n W w') (hn : W.heap.size = n) (hB : B ≤ n) : Below B w w' := by
  subst hn; exact below_then h hB hb

theorem heap_new (W : World) (o : Obj) : (W.alloc o).heap[W.heap.size]? = some o := heap_alloc_new W o
theorem heap_old (W : World) (o : Obj) (k : Nat) (h : k < W.heap.size) : (W.alloc o).heap[k]? = W.heap[k]? := Below.heap_alloc W o k h
theorem heap_new_drewN (W : World) (n : Nat) (o : Obj) : ((W.drewN n).alloc o).heap[W.heap.size]? = some o := heap_alloc_new (W.drewN n) o

/-! A slice of bytes that is read: what it reads as; it may lie anywhere, and is never written. -/
def Sl (w : World) (v : Value) (xs : List Int) : Prop := ∃ A c, v = .slice A xs.length c ∧ xs.length ≤ c ∧ Kd.C (Kd.int .u8) w A xs.length xs
theorem Sl.below {w w' : World} {v : Value} {xs : List Int} (h : Sl w v xs) (hb : Below w.heap.size w w') : Sl w' v xs := by
  obtain ⟨A, c, e, hc, hC⟩ := h
  exact ⟨A, c, e, hc, Kd.C_below hC hb⟩
theorem Sl.drew {w : World} {v : Value} {xs : List Int} (h : Sl w v xs) : Sl w.drew v xs := h.below (below_drew1 (Below.refl _ _))
theorem Sl.drewN {w : World} {v : Value} {xs : List Int} (h : Sl w v xs) (n : Nat) : Sl (w.drewN n) v xs := h.below (pw_below_drewN (Below.refl _ _) n)
theorem Sl.alloc {w : World} {v : Value} {xs : List Int} (h : Sl w v xs) (o : Obj) : Sl (w.alloc o) v xs := h.below (below_alloc (Below.refl _ _) o)
theorem Sl.of_R {w : World} {e base : Nat} {ok : Nat → Prop} {v : Value} {xs : List Int} (h : Kd.R (Kd.int .u8) e w base ok v xs) : Sl w v xs := Kd.R_reads h
theorem Sl.of_V {w : World} {e base : Nat} {ok : Nat → Prop} {v : Value} {xs : List Int} (h : Kd.V (Kd.int .u8) e w base ok v xs) : Sl w v xs := by
  obtain ⟨A, c, rfl, hc, hF⟩ := h
  exact ⟨A, c, rfl, hc, Kd.F_now hF⟩
theorem Sl.to_V {w : World} {e base : Nat} {v : Value} {xs : List Int} (h : Sl w v xs) : Kd.V (Kd.int .u8) e w base (fun k_ => k_ < w.heap.size) v xs := by
  obtain ⟨A, c, rfl, hc, hC⟩ := h
  refine Kd.V_mk hc (fun W' hW => ?_)
  refine ⟨hC.1, hC.2.1, fun hp => ?_⟩
  obtain ⟨ad, e, hr⟩ := hC.2.2 hp
  refine ⟨ad, e, fun j p hj => ?_⟩
  obtain ⟨c, h1, h2, h3⟩ := hr j p hj
  refine ⟨c, h1, h2, fun i u hu => ?_⟩
  have hlt := World.block_lt_of_cell? w _ (h3 i u hu)
  exact (World.cell?_of_block (hW _ hlt hlt)).trans (h3 i u hu)
theorem Sl.nil (w : World) : Sl w (.slice none 0 0) [] := ⟨none, 0, rfl, Nat.le_refl _, Kd.C_nil _ _⟩
theorem Sl.mk {w : World} {A : Option Addr} {c : Nat} {xs : List Int} (h : Kd.C (Kd.int .u8) w A xs.length xs) (hc : xs.length ≤ c) : Sl w (.slice A xs.length c) xs := ⟨A, c, rfl, hc, h⟩
theorem Sl.string {P : Program} {w : World} {src dst e : TypeId} {v : Value} {xs : List Int} (hs : P.underlying src = some (.slice e)) (he : P.underlying e = some (.int .u8)) (hd : P.underlying dst = some .string)
    (h : Sl w v xs) : (convert src dst v).run P w = .ok (.string (strOfNums xs)) w := by
  obtain ⟨A, c, rfl, _, hC⟩ := h
  exact Kd.C_string hs he hd hC
theorem below_of_drawn {w w' : World} (h : Drawn0 w w') : Below w.heap.size w w' := h.below


/-- An append of bytes to a slice that is full, as what the operation comes to. -/
theorem exec_app {P : Program} {w : World} {f : Operand → Value} {o : Oper} {s x : Operand} {t e : TypeId} {bytes : Nat} (hop : o.op = Op.call { callee := Callee.builtin Builtin.append, args := #[s, x], argTypes := #[t, t] })
    (h1 : P.underlying t = some (.slice e)) (hi : (P.info? e).map (fun i => (i.zero, i.size, i.bytes)) = some (some (.int .u8 0), 1, bytes))
    {A : Option Addr} {n : Nat} {xs : List Int} (hs : f s = .slice A n n) (hx : Kd.C (Kd.int .u8) w A n xs) {v : Value} {ys : List Int} (he : f x = v) (hy : Sl w v ys)
    (b1 : n + ys.length ≤ maxLen) (b2 : (n + ys.length) * bytes ≤ 140737488355328) :
    ∃ v' w', (execOp f o).run P w = .ok (.value v') w' ∧ Sl w' v' (xs ++ ys) ∧ Below w.heap.size w w' := by
  obtain ⟨i0, hi0, hz0, hz1, hz2⟩ := info_parts hi
  obtain ⟨A2, c2, rfl, hc2, hC2⟩ := hy
  have hxl : xs.length = n := hx.1
  rcases Nat.eq_zero_or_pos ys.length with h0 | hm
  · obtain rfl : ys = [] := List.eq_nil_of_length_eq_zero h0
    have hsrc : Src P i0.size t (.slice A2 ([] : List Int).length c2) 0 [] w := by
      cases A2 with
      | none => exact Src.ofNil _ h1 c2
      | some ad => exact Src.ofSlice _ h1 ad 0 c2 [] (by simp) (fun j u hj => by cases j <;> cases hj) (fun u hu => by cases hu)
    have hrun := run_append_nothing (P := P) w t t o.type e i0 h1 hi0 A n n (Nat.le_refl _) _ hsrc
    refine ⟨.slice A n n, w, ?_, ?_, Below.refl _ _⟩
    · have hrun' : (Builtin.append_ #[t, t] o.type #[Value.slice A n n, Value.slice A2 0 c2]).run P w = .ok (.slice A n n) w := hrun
      simp [execOp, hop, resolve, invoke, builtin, hs, he, hrun', Result.andThen]
    · rw [List.append_nil]
      subst hxl
      exact ⟨A, xs.length, rfl, Nat.le_refl _, hx⟩
  · obtain ⟨ad, hA2, _⟩ := hC2.2.2 hm
    subst hA2
    have hC : ∀ j u, (nums .u8 ys)[j]? = some u → w.cell? (ad.add j) = some u := fun j u hu => C_cells hC2 ad rfl j u hu
    have one : ∀ u ∈ nums .u8 ys, u.oneCell' = true := fun u hu => by
      rw [nums, List.mem_map] at hu
      obtain ⟨z, _, rfl⟩ := hu
      rfl
    have fin : ∀ v' w', w'.ownsRow w.heap.size e 1 v' (n + ys.length) (nums .u8 xs ++ nums .u8 ys) → Sl w' v' (xs ++ ys) := by
      intro v' w' ho
      refine Sl.of_R (e := e) (base := w.heap.size) (ok := fun _ => True) (Kd.R_of_own ?_ (fun _ _ => trivial))
      have e1 : (xs ++ ys).length = n + ys.length := by rw [List.length_append, hxl]
      have e2 : encs (Value.int .u8) (xs ++ ys) = nums .u8 xs ++ nums .u8 ys := by rw [encs_append]; rfl
      rw [e1, e2]
      exact ho
    cases A with
    | some b =>
      obtain ⟨v', w', hrun, r1, r2⟩ := run_append_arg_grows (P := P) w t o.type e i0 (.int .u8 0) 1 bytes h1 hi0 hz0 hz1 hz2 rfl (by decide) b n n (nums .u8 xs) (by rw [nums_length, hxl]; omega) (fun j u hu => C_cells hx b rfl j u hu) ad ys.length c2 (nums .u8 ys) (by rw [nums_length]; omega) hC (by omega) b1 b2
      refine ⟨v', w', ?_, fin v' w' r1, (Below.refl _ w).grown r2 (Nat.le_refl _) (fun k e => by cases e)⟩
      simp [execOp, hop, resolve, invoke, builtin, hs, he, hrun, Result.andThen]
    | none =>
      obtain rfl : n = 0 := C_none hx rfl
      obtain rfl : xs = [] := List.eq_nil_of_length_eq_zero hxl
      obtain ⟨v', w', hrun, r1, r2, _⟩ := run_append_own (P := P) w w.heap.size t o.type e i0 (.int .u8 0) 1 bytes h1 hi0 hz0 hz1 hz2 rfl (by decide) (.slice none 0 0) 0 [] (World.ownsRow_nil w _ e 1) ad ys.length c2 (nums .u8 ys) (by rw [nums_length]; omega) hC one b1 b2 (Nat.le_refl _)
      refine ⟨v', w', ?_, fin v' w' r1, (Below.refl _ w).grown r2 (Nat.le_refl _) (fun k e => by cases e)⟩
      simp [execOp, hop, resolve, invoke, builtin, hs, he, hrun, Result.andThen]
theorem Sl.toC {w : World} {A : Option Addr} {n c : Nat} {xs : List Int} (h : Sl w (.slice A n c) xs) : n = xs.length ∧ n ≤ c ∧ Kd.C (Kd.int .u8) w A n xs := by
  obtain ⟨A', c', e, hc, hC⟩ := h
  injection e with e1 e2 e3
  subst e1; subst e2; subst e3
  exact ⟨rfl, hc, hC⟩
/-- The same in a region that draws its order. -/
theorem value_app {P : Program} {oi : Oper} {ops : Array Oper} {Q : Exit → Act → World → Prop} {N : Option Tmp} {a : Act} {w : World} {K : Act → World → Prop} {s x : Operand} {t e : TypeId} {bytes : Nat} (hw : Region.wanted oi (yielded ops a.tmps) = true) (hN : oi.dst = N)
    (hop : oi.op = Op.call { callee := Callee.builtin Builtin.append, args := #[s, x], argTypes := #[t, t] })
    (h1 : P.underlying t = some (.slice e)) (hi : (P.info? e).map (fun i => (i.zero, i.size, i.bytes)) = some (some (.int .u8 0), 1, bytes))
    {A : Option Addr} {n c : Nat} {xs : List Int} (hs : a.eval s = .slice A n n) (hx : Sl w (.slice A n c) xs) {v : Value} {ys : List Int} (he : a.eval x = v) (hy : Sl w v ys)
    (b1 : n + ys.length ≤ maxLen) (b2 : (n + ys.length) * bytes ≤ 140737488355328)
    (h : ∀ v' w', Sl w' v' (xs ++ ys) → Below w.heap.size w w' → K (a.put N v') w') : if Region.wanted oi (yielded ops a.tmps) = true then Oper.wp P oi a w K Q else K (a.put N undef) w := by
  obtain ⟨v', w', hr, h1', h2⟩ := exec_app (o := oi) (f := a.eval) hop h1 hi hs hx.toC.2.2 he hy b1 b2
  exact value_ hw hN hr (h v' w' h1' h2)
end Go.Proofs.Ytedfcjcnhgomoaa.Own
end
-- MERGED YtedfcjcnhgomoaaPsum32Seal
section
-- Written by wip/myprint.py of this session, over the kit's print.py: a Lean function for each Go function, and the proof that the code comes to it.
namespace Go.Proofs.Ytedfcjcnhgomoaa.P
open Go.RowKit Go.Proofs.YtedfcjcnhgomoaaW.PrintWords Go.Proofs.YtedfcjcnhgomoaaW.PrintLast Go.Proofs.YtedfcjcnhgomoaaW.PrintMore
attribute [local go_sem] max2_int min2_int max_two min_two max_three min_three max_four min_four   -- for this text's walks alone
set_option linter.unusedVariables false
set_option linter.unusedSimpArgs false

/-! ### sum32_Seal: function 39 -/
-- NEEDS Derived.Test.YtedfcjcnhgomoaaSum
-- NEEDS Derived.Test.YtedfcjcnhgomoaaOwn
def sum32_Seal.f (l0 : List Int) : Option (List Int) := if l0.length + 4 < 140737488355328 then some (l0 ++ Crc.le4 (Crc.sum l0)) else none
set_option maxHeartbeats 1000000 in
set_option maxRecDepth 100000 in
theorem sum32_Seal.calls (A0 : Option Addr) (c0 : Nat) (l0 : List Int) (r : List Int) (w : World) (hr0 : Kd.C (Kd.int .u8) w A0 l0.length l0) (hc0 : l0.length ≤ c0) (h : sum32_Seal.f l0 = some r) :
    Calls Try.prog 39 #[.slice A0 l0.length c0] w fun e w' => ∃ v0_ : Value, e = .returned (v0_) ∧ Kd.R (Kd.int .u8) 5 w' w.heap.size (fun _ => True) v0_ r ∧ Below w.heap.size w w' := by
  unfold sum32_Seal.f at h
  by_cases hlen : l0.length + 4 < 140737488355328
  · rw [if_pos hlen] at h
    obtain rfl := Option.some.inj h
    obtain ⟨k, hk⟩ := SumF.sum_some l0 (by omega)
    have K1 := Aside0.mk hk
    have HR0 := Aside0.mk hr0
    have HC0 := Aside0.mk hc0
    have HL := Aside0.mk hlen
    clear hk hr0 hc0 h hlen
    go_enter Try.func39, Try.ntmps39
    go_wp2_with fail
    refine (sum32_Sum.calls k A0 c0 l0 _ _ HR0.out HC0.out K1.out).mono ?_
    rintro e w' ⟨rfl, ⟨nd, rfl⟩⟩
    have hn := Own.heap_new_drewN w nd
    have hcap : l0.length ≤ c0 := HC0.out
    go_wp2_with (at_builtin; refine Own.append_full .u8 rfl (.tmp 11) (.tmp 23) 25 5 1 rfl Try.underlying25 info5 A0 l0.length l0 rfl ?hx (some ⟨w.heap.size, 0, none⟩) 4 4 (Crc.le4 (Crc.sum l0)) rfl ?hy (by decide) ?b1 ?b2 ?_)
    case hx => exact Kd.C_alloc (Kd.C_drewN HR0.out nd) _
    case hy => exact Own.C_of_lit .u8 _ (hn _) rfl (by simp [Crc.le4])
    case b1 => have := HL.out; unfold maxLen; omega
    case b2 => have := HL.out; omega
    intro v' w' ho hb
    go_wp2_with fail
    go_ret
    exact ⟨v', rfl, Kd.R_lower ho (by simp), Own.below_after (below_alloc (pw_below_drewN (Below.refl _ w) nd) _) hb (by simp) (by simp)⟩
  · rw [if_neg hlen] at h; cases h

end Go.Proofs.Ytedfcjcnhgomoaa.P
end
-- MERGED YtedfcjcnhgomoaaPsum32Open
section
-- Written by wip/myprint.py of this session, over the kit's print.py: a Lean function for each Go function, and the proof that the code comes to it.
namespace Go.Proofs.Ytedfcjcnhgomoaa.P
open Go.RowKit Go.Proofs.YtedfcjcnhgomoaaW.PrintWords Go.Proofs.YtedfcjcnhgomoaaW.PrintLast Go.Proofs.YtedfcjcnhgomoaaW.PrintMore
attribute [local go_sem] max2_int min2_int max_two min_two max_three min_three max_four min_four   -- for this text's walks alone
set_option linter.unusedVariables false
set_option linter.unusedSimpArgs false

/-! ### sum32_Open: function 50 -/
-- NEEDS Derived.Test.YtedfcjcnhgomoaaOwn
-- NEEDS Derived.Test.YtedfcjcnhgomoaaCrc
-- NEEDS Derived.Deep.RegionWith
def sum32_Open.f (l0 : List Int) : Option (List Int × Bool) := if l0.length ≤ 140737488355000 then (if 4 ≤ l0.length ∧ (strOfNums (l0.take (l0.length - 4) ++ Crc.le4 (Crc.sum (l0.take (l0.length - 4))))).toList = (strOfNums l0).toList then some (l0.take (l0.length - 4), true) else some ([], false)) else none
set_option maxHeartbeats 1000000 in
set_option maxRecDepth 100000 in
theorem sum32_Open.short (A0 : Option Addr) (c0 : Nat) (l0 : List Int) (w : World) (h4 : l0.length < 4) :
    Calls Try.prog 50 #[.slice A0 l0.length c0] w fun e w' => e = .returned (.tuple #[.slice none 0 0, .bool false]) ∧ Drawn0 w w' := by
  have g1 : (l0.length : Int) - 4 < 0 := by omega
  go_enter Try.func50, Try.ntmps50
  go_wp2_with fail
  go_quiet (fail)
  go_wp2_with fail
  go_ret2
  exact ⟨rfl, ⟨_, rfl⟩⟩
set_option maxHeartbeats 8000000 in
set_option maxRecDepth 100000 in
theorem sum32_Open.calls (P0_ : Nat → Prop) (A0 : Option Addr) (c0 : Nat) (l0 : List Int) (r1 : List Int) (r2 : Bool) (w : World) (hs0 : Kd.V (Kd.int .u8) 5 w w.heap.size (fun k_ => P0_ k_) (.slice A0 l0.length c0) l0) (h : sum32_Open.f l0 = some (r1, r2)) :
    Calls Try.prog 50 #[.slice A0 l0.length c0] w fun e w' => ∃ v0_ : Value, e = .returned (.tuple #[v0_, .bool r2]) ∧ Kd.V (Kd.int .u8) 5 w' w.heap.size (fun k_ => (P0_ k_ ∨ w.heap.size ≤ k_)) v0_ r1 ∧ Below w.heap.size w w' := by
  unfold sum32_Open.f at h
  by_cases hlen : l0.length ≤ 140737488355000
  · rw [if_pos hlen] at h
    have hcap : l0.length ≤ c0 := (Kd.V_reads' hs0).2.1
    have HS := Aside0.mk hs0
    by_cases h4 : 4 ≤ l0.length
    · have g1 : decide ((l0.length : Int) - 4 < 0) = false := by simp; omega
      have g2 : (0 : Int) ≤ (l0.length : Int) - 4 := by omega
      have g3 : (l0.length : Int) - 4 ≤ (l0.length : Int) := by omega
      obtain ⟨i0, hi0, _, hsz, _⟩ := info_parts info5
      have hcut := cut_to (P := Try.prog) 25 5 .i64 Try.underlying25 hi0 A0 l0.length c0 ((l0.length : Int) - 4) g2 g3 hcap
      have htn : ((l0.length : Int) - 4).toNat = l0.length - 4 := by omega
      rw [htn] at hcut
      have htl : (l0.take (l0.length - 4)).length = l0.length - 4 := by rw [List.length_take]; omega
      obtain ⟨p, hp⟩ : ∃ p, p = l0.take (l0.length - 4) := ⟨_, rfl⟩
      rw [← hp] at htl h
      have hCp : ∀ W, Kd.C (Kd.int .u8) W A0 l0.length l0 → Kd.C (Kd.int .u8) W A0 p.length p := fun W hW => by rw [htl, hp]; exact Own.C_take hW _ (by omega)
      rw [← htl] at hcut
      have HP := Aside0.mk hp
      have HT := Aside0.mk htl
      clear hp htl htn hi0 hsz
      have hcv : ∀ W, Below w.heap.size w W → (convert 25 9 (.slice A0 l0.length c0)).run Try.prog W = .ok (.string (strOfNums l0)) W := fun W hW =>
        Kd.C_string Try.underlying25 Try.underlying5 Try.underlying9 (Kd.C_below (Kd.V_reads' HS.out).2.2 hW)
      have hb0 := Below.refl w.heap.size w
      have hbd : Below w.heap.size w w.drew := below_drew1 hb0
      have hs : sum32_Seal.f p = some (p ++ Crc.le4 (Crc.sum p)) := by unfold sum32_Seal.f; rw [if_pos (by have := HT.out; omega)]
      have A1 := Aside0.mk hs
      clear hs
      have hF : ∀ W, Below w.heap.size w W → Kd.V (Kd.int .u8) 5 W w.heap.size (fun k_ => (P0_ k_ ∨ w.heap.size ≤ k_)) (.slice A0 p.length c0) p := fun W hW => by
        refine Kd.V_mk (by have := HT.out; omega) ?_
        have h1 := Kd.F_take (m := l0.length - 4) (Kd.V_at HS.out).2.2 (by omega)
        rw [← HP.out] at h1
        exact Kd.F_mono (Kd.F_below h1 hW) (fun _ h => .inl h)
      by_cases he : (strOfNums (p ++ Crc.le4 (Crc.sum p))).toList = (strOfNums l0).toList
      · rw [if_pos ⟨h4, he⟩] at h
        simp only [Option.some.injEq, Prod.mk.injEq] at h
        obtain ⟨rfl, rfl⟩ := h
        have hq : ((strOfNums (p ++ Crc.le4 (Crc.sum p))).toList == (strOfNums l0).toList) = true := beq_iff_eq.mpr he
        clear he
        go_enter Try.func50, Try.ntmps50
        go_wp2_with fail
        go_region_with (go_at_call 39; refine (sum32_Seal.calls A0 c0 p _ _ ?_ ?_ A1.out).mono ?_; exact hCp _ (Kd.C_below (Kd.V_reads' HS.out).2.2 hbd); (have := HT.out; omega); rintro e w' ⟨v, rfl, ho, hb⟩; have hb1 : Below w.heap.size w w' := below_step hbd hb; have hcv1 := own_string (P := Try.prog) Try.underlying25 Try.underlying5 Try.underlying9 (Kd.own_of_R ho))
        all_goals (go_wp2_with fail; go_ret2; exact ⟨_, rfl, hF _ (by assumption), by assumption⟩)
      · rw [if_neg (fun h => he h.2)] at h
        simp only [Option.some.injEq, Prod.mk.injEq] at h
        obtain ⟨rfl, rfl⟩ := h
        have hq : ((strOfNums (p ++ Crc.le4 (Crc.sum p))).toList == (strOfNums l0).toList) = false := beq_eq_false_iff_ne.mpr he
        clear he
        go_enter Try.func50, Try.ntmps50
        go_wp2_with fail
        go_region_with (go_at_call 39; refine (sum32_Seal.calls A0 c0 p _ _ ?_ ?_ A1.out).mono ?_; exact hCp _ (Kd.C_below (Kd.V_reads' HS.out).2.2 hbd); (have := HT.out; omega); rintro e w' ⟨v, rfl, ho, hb⟩; have hb1 : Below w.heap.size w w' := below_step hbd hb; have hcv1 := own_string (P := Try.prog) Try.underlying25 Try.underlying5 Try.underlying9 (Kd.own_of_R ho))
        all_goals (go_wp2_with fail; go_ret2; exact ⟨_, rfl, Kd.V_nil _ _ _ _ _, by assumption⟩)
    · rw [if_neg (fun h => h4 h.1)] at h
      simp only [Option.some.injEq, Prod.mk.injEq] at h
      obtain ⟨rfl, rfl⟩ := h
      refine (sum32_Open.short A0 c0 l0 w (by omega)).mono ?_
      rintro e w' ⟨rfl, hd⟩
      exact ⟨_, rfl, Kd.V_nil _ _ _ _ _, hd.below⟩
  · rw [if_neg hlen] at h; cases h

end Go.Proofs.Ytedfcjcnhgomoaa.P
end
-- MERGED YtedfcjcnhgomoaaPvariorumref02step
section
-- Written by wip/myprint.py of this session, over the kit's print.py: a Lean function for each Go function, and the proof that the code comes to it.
namespace Go.Proofs.Ytedfcjcnhgomoaa.P
open Go.RowKit Go.Proofs.YtedfcjcnhgomoaaW.PrintWords Go.Proofs.YtedfcjcnhgomoaaW.PrintLast Go.Proofs.YtedfcjcnhgomoaaW.PrintMore
attribute [local go_sem] max2_int min2_int max_two min_two max_three min_three max_four min_four   -- for this text's walks alone
set_option linter.unusedVariables false
set_option linter.unusedSimpArgs false

/-! ### variorumref02_step: function 107 -/
def variorumref02_step.l0 : Nat → Int → Int → Option (Int)
  | 0, _, _ => none
  | k + 1, x0, x5 => if x5 < 8 then (if (Int.tmod x0 2) = 1 then (variorumref02_step.l0 k (Go.bits .xor .u32 ((Int.tdiv x0 2) % 4294967296) 2197175160) (wrap64 (x5 + 1))) else (variorumref02_step.l0 k ((Int.tdiv x0 2) % 4294967296) (wrap64 (x5 + 1)))) else (some x0)
def variorumref02_step.f (k : Nat) (a0 : Int) (a1 : Int) : Option (Int) := variorumref02_step.l0 k (Go.bits .xor .u32 a0 ((a1) % 4294967296)) 0
theorem variorumref02_step.mono_l : ∀ k, (∀ y0 y1, LeO (variorumref02_step.l0 k y0 y1) (variorumref02_step.l0 (k + 1) y0 y1))
  | 0 => fun _ _ r h => by simp [variorumref02_step.l0] at h
  | k + 1 => by
    have ih0 := variorumref02_step.mono_l k
    · intro y0 y1
      unfold variorumref02_step.l0
      repeat' first
      | (with_reducible exact ih0 _ _)
      | (with_reducible exact LeO.refl _)
      | (with_reducible exact LeO.none _)
      | (with_reducible refine LeO.ite ?_ ?_)
      | (with_reducible refine LeO.bind ?_ (fun _ => ?_))
      | exact ih0 _ _
      | exact LeO.none _
      | refine LeO.ite ?_ ?_
      | refine LeO.bind ?_ (fun _ => ?_)
theorem variorumref02_step.mono : ∀ a0 a1 k, LeO (variorumref02_step.f k a0 a1) (variorumref02_step.f (k + 1) a0 a1) := by
  intro a0 a1 k
  have ih0 := variorumref02_step.mono_l k
  unfold variorumref02_step.f
  repeat' first
      | (with_reducible exact ih0 _ _)
      | (with_reducible exact LeO.refl _)
      | (with_reducible exact LeO.none _)
      | (with_reducible refine LeO.ite ?_ ?_)
      | (with_reducible refine LeO.bind ?_ (fun _ => ?_))
      | exact ih0 _ _
      | exact LeO.none _
      | refine LeO.ite ?_ ?_
      | refine LeO.bind ?_ (fun _ => ?_)
set_option maxHeartbeats 8000000 in
set_option maxRecDepth 100000 in
theorem variorumref02_step.calls (k : Nat) (a0 : Int) (a1 : Int) (r : Int) (w : World) (h : variorumref02_step.f k a0 a1 = some r) :
    Calls Try.prog 107 #[.int .u32 a0, .int .u8 a1] w fun e w' => e = .returned (.int .u32 r) ∧ Drawn0 w w' := by
  have H : (variorumref02_step.l0 k (Go.bits .xor .u32 a0 ((a1) % 4294967296)) 0) = some r := h
  clear h
  have H' := Aside0.mk H
  clear H
  go_enter Try.func107, Try.ntmps107
  go_wp2
  go_loopg [0, 5] k (fun kq v0 v5 w' => ∃ (x0_1 : Int) (x5_1 : Int), v0 = .int .u32 x0_1 ∧ v5 = .int .i64 x5_1 ∧ Aside0 (variorumref02_step.l0 kq x0_1 x5_1 = some r) ∧ Aside0 (kq ≤ k) ∧ Drawn0 w w')
  case atStart => exact ⟨(Go.bits .xor .u32 a0 ((a1) % 4294967296)), (0), (by first | rfl | (simp; done) | (simp [*]; done)), (by first | rfl | (simp; done) | (simp [*]; done)), H', ⟨Nat.le_refl _⟩, by repeat (first | exact Drawn0.refl _ | apply Drawn0.step)⟩
  case round =>
    clear H'
    try clear c1
    try clear p2
    obtain ⟨x0_1, x5_1, rfl, rfl, HA, HK1, ⟨m1, rfl⟩⟩ := hrel
    cases gk with
    | zero => exact absurd HA.out (by simp [variorumref02_step.l0])
    | succ k1 =>
      have H := HA.out
      clear HA
      simp only [variorumref02_step.l0] at H
      by_cases c3 : x5_1 < 8
      · rw [if_pos c3] at H
        have c3b0 : decide (x5_1 < 8) = true := decide_eq_true c3
        clear c3
        by_cases c4 : (Int.tmod x0_1 2) = 1
        · rw [if_pos c4] at H
          have c4b0 : ((Int.tmod x0_1 2) == 1) = true := beq_iff_eq.mpr c4
          have c4b1 : ((Int.tmod x0_1 2) != 1) = false := bne_eq_false_iff_eq.mpr c4
          clear c4
          have H' := Aside0.mk H
          clear H
          go_wp2
          go_roundg k1
          case measure => have := HK1.out; omega
          case rel => exact ⟨(Go.bits .xor .u32 ((Int.tdiv x0_1 2) % 4294967296) 2197175160), (wrap64 (x5_1 + 1)), (by first | rfl | (simp; done) | (simp [*]; done)), (by first | rfl | (simp; done) | (simp [*]; done)), H', ⟨by have := HK1.out; omega⟩, by repeat (first | exact Drawn0.refl _ | apply Drawn0.step)⟩
        · rw [if_neg c4] at H
          have c4b0 : ((Int.tmod x0_1 2) == 1) = false := beq_eq_false_iff_ne.mpr c4
          have c4b1 : ((Int.tmod x0_1 2) != 1) = true := bne_iff_ne.mpr c4
          have H' := Aside0.mk H
          clear H
          go_wp2
          go_roundg k1
          case measure => have := HK1.out; omega
          case rel => exact ⟨((Int.tdiv x0_1 2) % 4294967296), (wrap64 (x5_1 + 1)), (by first | rfl | (simp; done) | (simp [*]; done)), (by first | rfl | (simp; done) | (simp [*]; done)), H', ⟨by have := HK1.out; omega⟩, by repeat (first | exact Drawn0.refl _ | apply Drawn0.step)⟩
      · rw [if_neg c3] at H
        have c3b0 : decide (x5_1 < 8) = false := decide_eq_false c3
        clear c3
        obtain rfl := Option.some.inj H
        go_wp2
        go_ret
        exact ⟨by first | rfl | (simp; done) | (simp [*]; done), by repeat (first | exact Drawn0.refl _ | apply Drawn0.step)⟩

end Go.Proofs.Ytedfcjcnhgomoaa.P
end
-- MERGED YtedfcjcnhgomoaaPvariorumref02Sum
section
-- Written by wip/myprint.py of this session, over the kit's print.py: a Lean function for each Go function, and the proof that the code comes to it.
namespace Go.Proofs.Ytedfcjcnhgomoaa.P
open Go.RowKit Go.Proofs.YtedfcjcnhgomoaaW.PrintWords Go.Proofs.YtedfcjcnhgomoaaW.PrintLast Go.Proofs.YtedfcjcnhgomoaaW.PrintMore
attribute [local go_sem] max2_int min2_int max_two min_two max_three min_three max_four min_four   -- for this text's walks alone
set_option linter.unusedVariables false
set_option linter.unusedSimpArgs false

/-! ### variorumref02_Sum: function 84 -/
def variorumref02_Sum.l0 : Nat → List Int → Int → Int → Option (Int)
  | 0, _, _, _ => none
  | k + 1, x0, x3, x4 => if x4 < (x0.length : Int) then (if 0 ≤ x4 then ((variorumref02_step.f k x3 (rd x0 x4)).bind fun t142 => (variorumref02_Sum.l0 k x0 t142 (wrap64 (x4 + 1)))) else (none)) else (some (Go.bits .xor .u32 x3 4294967295))
def variorumref02_Sum.f (k : Nat) (l0 : List Int) : Option (Int) := variorumref02_Sum.l0 k l0 4294967295 0
theorem variorumref02_Sum.mono_l : ∀ k, (∀ y0 y1 y2, LeO (variorumref02_Sum.l0 k y0 y1 y2) (variorumref02_Sum.l0 (k + 1) y0 y1 y2))
  | 0 => fun _ _ _ r h => by simp [variorumref02_Sum.l0] at h
  | k + 1 => by
    have ih0 := variorumref02_Sum.mono_l k
    · intro y0 y1 y2
      unfold variorumref02_Sum.l0
      repeat' first
      | (with_reducible exact ih0 _ _ _)
      | (with_reducible exact variorumref02_step.mono _ _ _)
      | (with_reducible exact LeO.refl _)
      | (with_reducible exact LeO.none _)
      | (with_reducible refine LeO.ite ?_ ?_)
      | (with_reducible refine LeO.bind ?_ (fun _ => ?_))
      | exact ih0 _ _ _
      | exact variorumref02_step.mono _ _ _
      | exact LeO.none _
      | refine LeO.ite ?_ ?_
      | refine LeO.bind ?_ (fun _ => ?_)
theorem variorumref02_Sum.mono : ∀ a0 k, LeO (variorumref02_Sum.f k a0) (variorumref02_Sum.f (k + 1) a0) := by
  intro a0 k
  have ih0 := variorumref02_Sum.mono_l k
  unfold variorumref02_Sum.f
  repeat' first
      | (with_reducible exact ih0 _ _ _)
      | (with_reducible exact variorumref02_step.mono _ _ _)
      | (with_reducible exact LeO.refl _)
      | (with_reducible exact LeO.none _)
      | (with_reducible refine LeO.ite ?_ ?_)
      | (with_reducible refine LeO.bind ?_ (fun _ => ?_))
      | exact ih0 _ _ _
      | exact variorumref02_step.mono _ _ _
      | exact LeO.none _
      | refine LeO.ite ?_ ?_
      | refine LeO.bind ?_ (fun _ => ?_)
set_option maxHeartbeats 8000000 in
set_option maxRecDepth 100000 in
theorem variorumref02_Sum.calls (k : Nat) (A0 : Option Addr) (c0 : Nat) (l0 : List Int) (r : Int) (w : World) (hr0 : Kd.C (Kd.int .u8) w A0 l0.length l0) (hc0 : l0.length ≤ c0) (h : variorumref02_Sum.f k l0 = some r) :
    Calls Try.prog 84 #[.slice A0 l0.length c0] w fun e w' => e = .returned (.int .u32 r) ∧ Drawn0 w w' := by
  have HR0 := Aside0.mk hr0
  have HC0 := Aside0.mk hc0
  clear hr0 hc0
  have H : (variorumref02_Sum.l0 k l0 4294967295 0) = some r := h
  clear h
  have H' := Aside0.mk H
  clear H
  go_enter Try.func84, Try.ntmps84
  go_wp2
  go_loopg [3, 4] k (fun kq v3 v4 w' => ∃ (x3_1 : Int) (x4_1 : Int), v3 = .int .u32 x3_1 ∧ v4 = .int .i64 x4_1 ∧ Aside0 (variorumref02_Sum.l0 kq l0 x3_1 x4_1 = some r) ∧ Aside0 (kq ≤ k) ∧ Drawn0 w w')
  case atStart => exact ⟨(4294967295), (0), (by first | rfl | (simp; done) | (simp [*]; done)), (by first | rfl | (simp; done) | (simp [*]; done)), H', ⟨Nat.le_refl _⟩, by repeat (first | exact Drawn0.refl _ | apply Drawn0.step)⟩
  case round =>
    clear H'
    obtain ⟨x3_1, x4_1, rfl, rfl, HA, HK1, ⟨m1, rfl⟩⟩ := hrel
    cases gk with
    | zero => exact absurd HA.out (by simp [variorumref02_Sum.l0])
    | succ k1 =>
      have H := HA.out
      clear HA
      simp only [variorumref02_Sum.l0] at H
      by_cases c2 : x4_1 < (l0.length : Int)
      · rw [if_pos c2] at H
        have c2b0 : decide (x4_1 < (l0.length : Int)) = true := decide_eq_true c2
        clear c2
        by_cases c3 : 0 ≤ x4_1
        · rw [if_pos c3] at H
          have c3b0 : decide (0 ≤ x4_1) = true := decide_eq_true c3
          clear c3
          replace H := Option.bind_eq_some_iff.mp H
          obtain ⟨t142, A40, H⟩ := H
          replace H : (variorumref02_Sum.l0 k1 l0 t142 (wrap64 (x4_1 + 1))) = some r := H
          have A4 := Aside0.mk A40
          clear A40
          have H' := Aside0.mk H
          clear H
          have p141 : 0 ≤ (x4_1 : Int) := of_decide_eq_true (by first | (with_reducible assumption) | assumption)
          have q141 : x4_1 < (l0.length : Int) := of_decide_eq_true (by first | (with_reducible assumption) | assumption)
          obtain ⟨ad141, e141, hx141_0⟩ := Kd.at_int HR0.out x4_1 p141 q141
          cases e141
          replace p141 := eq_true p141
          replace q141 := eq_true q141
          go_wp2_with (first | ((with_reducible refine gate_callee (f := 107) rfl ?_); refine goesL_ (some 16) rfl rfl Try.func107 (by kernel_rfl) rfl #[.int .u32 x3_1, .int .u8 (rd l0 x4_1)] rfl (by (try simp only [List.map_toArray, List.map_cons, List.map_nil]); first | done | rfl | (simp only [List.length_drop, List.length_take]; rfl)) ?_; (with_reducible refine (variorumref02_step.calls k1 x3_1 (rd l0 x4_1) t142 _ A4.out).mono ?_); rintro e w' ⟨rfl, ⟨nd, rfl⟩⟩; refine ⟨_, rfl, ?_⟩))
          go_roundg k1
          case measure => have := HK1.out; omega
          case rel => exact ⟨(t142), (wrap64 (x4_1 + 1)), (by first | rfl | (simp; done) | (simp [*]; done)), (by first | rfl | (simp; done) | (simp [*]; done)), H', ⟨by have := HK1.out; omega⟩, by repeat (first | exact Drawn0.refl _ | apply Drawn0.step)⟩
        · rw [if_neg c3] at H
          exact absurd H (by simp)
      · rw [if_neg c2] at H
        have c2b0 : decide (x4_1 < (l0.length : Int)) = false := decide_eq_false c2
        clear c2
        obtain rfl := Option.some.inj H
        go_wp2
        go_ret
        exact ⟨by first | rfl | (simp; done) | (simp [*]; done), by repeat (first | exact Drawn0.refl _ | apply Drawn0.step)⟩

end Go.Proofs.Ytedfcjcnhgomoaa.P
end
-- MERGED YtedfcjcnhgomoaaPvariorumref02Seal
section
-- Written by wip/myprint.py of this session, over the kit's print.py: a Lean function for each Go function, and the proof that the code comes to it.
namespace Go.Proofs.Ytedfcjcnhgomoaa.P
open Go.RowKit Go.Proofs.YtedfcjcnhgomoaaW.PrintWords Go.Proofs.YtedfcjcnhgomoaaW.PrintLast Go.Proofs.YtedfcjcnhgomoaaW.PrintMore
attribute [local go_sem] max2_int min2_int max_two min_two max_three min_three max_four min_four   -- for this text's walks alone
set_option linter.unusedVariables false
set_option linter.unusedSimpArgs false

/-! ### variorumref02_Seal: function 42 -/
def variorumref02_Seal.l0 : Nat → Int → List Int → Int → Option (List Int)
  | 0, _, _, _ => none
  | k + 1, x3, x4, x5 => if x5 < 4 then (if x4.length < 140737488355328 then (variorumref02_Seal.l0 k ((Int.tdiv x3 256) % 4294967296) (x4 ++ [(Int.tmod x3 256) % 256]) (wrap64 (x5 + 1))) else (none)) else (some x4)
def variorumref02_Seal.f (k : Nat) (l0 : List Int) : Option (List Int) := (variorumref02_Sum.f k l0).bind fun t143 => ((some (([] : List Int) : List Int)).bind fun y144 => (if y144.length + l0.length < 140737488355328 then (variorumref02_Seal.l0 k t143 (y144 ++ l0) 0) else (none)))
theorem variorumref02_Seal.mono_l : ∀ k, (∀ y0 y1 y2, LeO (variorumref02_Seal.l0 k y0 y1 y2) (variorumref02_Seal.l0 (k + 1) y0 y1 y2))
  | 0 => fun _ _ _ r h => by simp [variorumref02_Seal.l0] at h
  | k + 1 => by
    have ih0 := variorumref02_Seal.mono_l k
    · intro y0 y1 y2
      unfold variorumref02_Seal.l0
      repeat' first
      | (with_reducible exact ih0 _ _ _)
      | (with_reducible exact variorumref02_Sum.mono _ _)
      | (with_reducible exact LeO.refl _)
      | (with_reducible exact LeO.none _)
      | (with_reducible refine LeO.ite ?_ ?_)
      | (with_reducible refine LeO.bind ?_ (fun _ => ?_))
      | exact ih0 _ _ _
      | exact variorumref02_Sum.mono _ _
      | exact LeO.none _
      | refine LeO.ite ?_ ?_
      | refine LeO.bind ?_ (fun _ => ?_)
theorem variorumref02_Seal.mono : ∀ a0 k, LeO (variorumref02_Seal.f k a0) (variorumref02_Seal.f (k + 1) a0) := by
  intro a0 k
  have ih0 := variorumref02_Seal.mono_l k
  unfold variorumref02_Seal.f
  repeat' first
      | (with_reducible exact ih0 _ _ _)
      | (with_reducible exact variorumref02_Sum.mono _ _)
      | (with_reducible exact LeO.refl _)
      | (with_reducible exact LeO.none _)
      | (with_reducible refine LeO.ite ?_ ?_)
      | (with_reducible refine LeO.bind ?_ (fun _ => ?_))
      | exact ih0 _ _ _
      | exact variorumref02_Sum.mono _ _
      | exact LeO.none _
      | refine LeO.ite ?_ ?_
      | refine LeO.bind ?_ (fun _ => ?_)
set_option maxHeartbeats 8000000 in
set_option maxRecDepth 100000 in
theorem variorumref02_Seal.calls (k : Nat) (A0 : Option Addr) (c0 : Nat) (l0 : List Int) (r : List Int) (w : World) (hr0 : Kd.C (Kd.int .u8) w A0 l0.length l0) (hc0 : l0.length ≤ c0) (h : variorumref02_Seal.f k l0 = some r) :
    Calls Try.prog 42 #[.slice A0 l0.length c0] w fun e w' => ∃ v0_ : Value, e = .returned (v0_) ∧ Kd.R (Kd.int .u8) 5 w' w.heap.size (fun _ => True) v0_ r ∧ Below w.heap.size w w' := by
  have HR0 := Aside0.mk hr0
  have HC0 := Aside0.mk hc0
  clear hr0 hc0
  have HB := Aside0.mk (Below.refl w.heap.size w)
  have H : ((variorumref02_Sum.f k l0).bind fun t143 => ((some (([] : List Int) : List Int)).bind fun y144 => (if y144.length + l0.length < 140737488355328 then (variorumref02_Seal.l0 k t143 (y144 ++ l0) 0) else (none)))) = some r := h
  clear h
  replace H := Option.bind_eq_some_iff.mp H
  obtain ⟨t143, A20, H⟩ := H
  replace H : ((some (([] : List Int) : List Int)).bind fun y144 => (if y144.length + l0.length < 140737488355328 then (variorumref02_Seal.l0 k t143 (y144 ++ l0) 0) else (none))) = some r := H
  have A2 := Aside0.mk A20
  clear A20
  obtain ⟨y144, hy144⟩ : ∃ y_ : List Int, y_ = (([] : List Int)) := ⟨_, rfl⟩
  replace H : (if y144.length + l0.length < 140737488355328 then (variorumref02_Seal.l0 k t143 (y144 ++ l0) 0) else (none)) = some r := by first | (rw [hy144]; with_reducible exact H) | (have H2_ := (Option.bind_some _ _).symm.trans H; rw [hy144]; with_reducible exact H2_) | (have H2_ := (Option.bind_some _ _).symm.trans H; with_reducible exact H2_) | with_reducible exact H | (rw [hy144]; exact H) | exact H
  have Ny144 := Aside0.mk hy144
  clear hy144
  by_cases c3 : y144.length + l0.length < 140737488355328
  · rw [if_pos c3] at H
    have LMc3 := Aside0.mk c3
    clear c3
    obtain ⟨y147, hy147⟩ : ∃ y_ : List Int, y_ = (y144 ++ l0) := ⟨_, rfl⟩
    replace H : (variorumref02_Seal.l0 k t143 y147 0) = some r := by first | (rw [hy147]; with_reducible exact H) | (have H2_ := (Option.bind_some _ _).symm.trans H; rw [hy147]; with_reducible exact H2_) | (have H2_ := (Option.bind_some _ _).symm.trans H; with_reducible exact H2_) | with_reducible exact H | (rw [hy147]; exact H) | exact H
    have Ny147 := Aside0.mk hy147
    clear hy147
    have H' := Aside0.mk H
    clear H
    go_enter Try.func42, Try.ntmps42
    go_wp2_with (first | ((with_reducible refine gate_callee (f := 84) rfl ?_); refine goesL_ (some 7) rfl rfl Try.func84 (by kernel_rfl) rfl #[.slice A0 l0.length c0] rfl (by (try simp only [List.map_toArray, List.map_cons, List.map_nil]); first | done | rfl | (simp only [List.length_drop, List.length_take]; rfl)) ?_; (with_reducible refine (variorumref02_Sum.calls k _ _ l0 t143 _ ?side1 ?side2 A2.out).mono ?_); (case side1 => repeat (first | exact HR0.out | (with_reducible refine Kd.C_alloc ?_ _) | (with_reducible refine Kd.C_drewN ?_ _) | (with_reducible refine Kd.C_drew ?_))); (case side2 => exact HC0.out); rintro e w' ⟨rfl, ⟨nd, rfl⟩⟩; refine ⟨_, rfl, ?_⟩) | ((with_reducible refine gate_dst (N := 8) rfl ?_); refine Kd.R_lit (Kd.int .u8) _ 5 ?hg (N := 8) ?hd (xs := ([] : List Int)) (inner := []) (ok := fun _ => True) (okp := fun _ => True) ?hr ?hp (fun _ hk => hk) trivial (Below.refl _ _) (Nat.le_refl _) (by simp) ?_; (case hd => rfl); (case hg => rfl); (case hr => first | (go_simp; done) | (go_simp; rfl)); (case hp => exact (Reps.none _ _)); intro v145 w4 ho5 hb hg_ hnew_; clear hg_ hnew_; (first | rw [← Ny144.out] at ho5 | (simp only [Int.reduceToNat] at ho5; rw [← Ny144.out] at ho5)); have n0_ := Aside0.mk (Kd.R_lower ho5 (below_size (by repeat (first | (with_reducible first | exact HB.out | apply below_alloc | apply pw_below_drewN | apply below_drew1) | exact HB.out)))); have n1_ := Aside0.mk (below_step (by repeat (first | (with_reducible first | exact HB.out | apply below_alloc | apply pw_below_drewN | apply below_drew1) | exact HB.out)) hb); clear HB; have HO146 := n0_; have HB := n1_; clear n0_ n1_; clear hb ho5) | ((with_reducible refine gate_builtin (b := .append) (xs := #[.tmp 8, .tmp 9]) rfl ?_); at_builtin; refine Kd.R_append_rows (Kd.int .u8) (w0 := w) w.heap.size rfl (.tmp 8) (.tmp 9) 25 5 (.int .u8 0) 1 rfl Try.underlying25 info5 rfl (by decide) (by omega) v145 y144 l0 _ _ _ (fun _ => True) (fun _ => False) rfl rfl ?aO ?aR (fun _ _ h => h) (fun _ h => h.elim) ?aF ?aB ?aS ?aL ?_; (case aR => repeat (first | exact (Kd.C_below HR0.out HB.out) | (with_reducible refine Kd.C_alloc ?_ _) | (with_reducible refine Kd.C_drewN ?_ _) | (with_reducible refine Kd.C_drew ?_))); (case aB => exact (by repeat (first | (with_reducible first | exact HB.out | apply below_alloc | apply pw_below_drewN | apply below_drew1) | exact HB.out))); (case aF => exact (fun _ _ => trivial)); (case aO => exact (by (with_reducible repeat (first | apply Kd.R_alloc | apply Kd.R_drewN | apply Kd.R_drew)); exact HO146.out)); (case aS => exact (below_size (by repeat (first | (with_reducible first | exact HB.out | apply below_alloc | apply pw_below_drewN | apply below_drew1) | exact HB.out)))); (case aL => have := LMc3.out; omega); intro v148 w6 ho hb hg hat; rw [← Ny147.out] at ho; have n0_ := Aside0.mk (hb); have n1_ := Aside0.mk (ho); clear HB; clear HO146; have HB := n0_; have HO149 := n1_; clear n0_ n1_; clear ho hb hg hat))
    go_loopg [3, 4, 5] k (fun kq v3 v4 v5 w' => ∃ (x3_1 : Int) (x4_1 : List Int) (x5_1 : Int), v3 = .int .u32 x3_1 ∧ v5 = .int .i64 x5_1 ∧ Aside0 (variorumref02_Seal.l0 kq x3_1 x4_1 x5_1 = some r) ∧ Aside0 (kq ≤ k) ∧ Aside0 (Kd.R (Kd.int .u8) 5 w' w.heap.size (fun _ => True) v4 x4_1) ∧ Aside0 (Below w.heap.size w w'))
    case atStart => exact ⟨(t143), (y147), (0), (by first | rfl | (simp; done) | (simp [*]; done)), (by first | rfl | (simp; done) | (simp [*]; done)), H', ⟨Nat.le_refl _⟩, ⟨by (with_reducible repeat (first | apply Kd.R_alloc | apply Kd.R_drewN | apply Kd.R_drew)); exact HO149.out⟩, ⟨by repeat (first | (with_reducible first | exact HB.out | apply below_alloc | apply pw_below_drewN | apply below_drew1) | exact HB.out)⟩⟩
    case round =>
      clear H'
      try clear p2
      try clear c3
      try clear c4
      obtain ⟨x3_1, x4_1, x5_1, rfl, rfl, HA, HK1, HO_4, HB⟩ := hrel
      cases gk with
      | zero => exact absurd HA.out (by simp [variorumref02_Seal.l0])
      | succ k1 =>
        have H := HA.out
        clear HA
        simp only [variorumref02_Seal.l0] at H
        by_cases c7 : x5_1 < 4
        · rw [if_pos c7] at H
          have c7b0 : decide (x5_1 < 4) = true := decide_eq_true c7
          clear c7
          by_cases c8 : x4_1.length < 140737488355328
          · rw [if_pos c8] at H
            have LMc8 := Aside0.mk c8
            clear c8
            obtain ⟨y150, hy150⟩ : ∃ y_ : List Int, y_ = (x4_1 ++ [(Int.tmod x3_1 256) % 256]) := ⟨_, rfl⟩
            replace H : (variorumref02_Seal.l0 k1 ((Int.tdiv x3_1 256) % 4294967296) y150 (wrap64 (x5_1 + 1))) = some r := by first | (rw [hy150]; with_reducible exact H) | (have H2_ := (Option.bind_some _ _).symm.trans H; rw [hy150]; with_reducible exact H2_) | (have H2_ := (Option.bind_some _ _).symm.trans H; with_reducible exact H2_) | with_reducible exact H | (rw [hy150]; exact H) | exact H
            have Ny150 := Aside0.mk hy150
            clear hy150
            have H' := Aside0.mk H
            clear H
            go_wp2_with (first | ((with_reducible refine gate_builtin (b := .append) (xs := #[.tmp 15, .tmp 19]) rfl ?_); at_builtin; refine Kd.R_append (Kd.int .u8) (w0 := w) w.heap.size rfl (.tmp 15) (.tmp 19) 25 5 (.int .u8 0) 1 rfl Try.underlying25 info5 rfl (by decide) (by omega) u4 x4_1 ((Int.tmod x3_1 256) % 256) [.int .u8 ((Int.tmod x3_1 256) % 256)] (fun _ => True) (fun _ => False) rfl rfl ?aP (fun _ hk => hk.elim) ?aF ?aO ?aB ?aS ?aL ?_; (case aP => exact rfl); (case aB => exact (by repeat (first | (with_reducible first | exact HB.out | apply below_alloc | apply pw_below_drewN | apply below_drew1) | exact HB.out))); (case aF => exact (fun _ _ => trivial)); (case aO => exact (by (with_reducible repeat (first | apply Kd.R_alloc | apply Kd.R_drewN | apply Kd.R_drew)); exact HO_4.out)); (case aS => exact (below_size (by repeat (first | (with_reducible first | exact HB.out | apply below_alloc | apply pw_below_drewN | apply below_drew1) | exact HB.out)))); (case aL => have := LMc8.out; omega); intro v151 w9 ho hb hg hat; rw [← Ny150.out] at ho; have n0_ := Aside0.mk (hb); have n1_ := Aside0.mk (ho); clear HB; clear HO_4; have HB := n0_; have HO152 := n1_; clear n0_ n1_; clear ho hb hg hat))
            go_roundg k1
            case measure => have := HK1.out; omega
            case rel => exact ⟨((Int.tdiv x3_1 256) % 4294967296), (y150), (wrap64 (x5_1 + 1)), (by first | rfl | (simp; done) | (simp [*]; done)), (by first | rfl | (simp; done) | (simp [*]; done)), H', ⟨by have := HK1.out; omega⟩, ⟨by (with_reducible repeat (first | apply Kd.R_alloc | apply Kd.R_drewN | apply Kd.R_drew)); exact HO152.out⟩, ⟨by repeat (first | (with_reducible first | exact HB.out | apply below_alloc | apply pw_below_drewN | apply below_drew1) | exact HB.out)⟩⟩
          · rw [if_neg c8] at H
            exact absurd H (by simp)
        · rw [if_neg c7] at H
          have c7b0 : decide (x5_1 < 4) = false := decide_eq_false c7
          clear c7
          obtain rfl := Option.some.inj H
          go_wp2
          go_ret
          exact ⟨_, by first | rfl | (simp [errW_none, errW_some] <;> rfl) | (simp [*, errW_none, errW_some] <;> rfl), by (with_reducible repeat (first | apply Kd.R_alloc | apply Kd.R_drewN | apply Kd.R_drew)); exact HO_4.out, by repeat (first | (with_reducible first | exact HB.out | apply below_alloc | apply pw_below_drewN | apply below_drew1) | exact HB.out)⟩
  · rw [if_neg c3] at H
    exact absurd H (by simp)

end Go.Proofs.Ytedfcjcnhgomoaa.P
end
-- MERGED YtedfcjcnhgomoaaByt
section
/- Lists of bytes as numbers: when two texts made of them are the same; a byte's bits. -/
namespace Go.Proofs.Ytedfcjcnhgomoaa.Byt
open Go.RowKit

/-- Each is a byte's number. -/
def Ok (l : List Int) : Prop := ∀ x ∈ l, 0 ≤ x ∧ x ≤ 255

theorem ok_nil : Ok [] := fun _ h => by cases h
theorem ok_cons {x : Int} {l : List Int} (h : 0 ≤ x ∧ x ≤ 255) (hl : Ok l) : Ok (x :: l) := fun y hy => by
  rcases List.mem_cons.1 hy with rfl | hy
  · exact h
  · exact hl y hy
theorem ok_append {l m : List Int} (hl : Ok l) (hm : Ok m) : Ok (l ++ m) := fun y hy => by
  rcases List.mem_append.1 hy with hy | hy
  · exact hl y hy
  · exact hm y hy
theorem ok_take {l : List Int} (h : Ok l) (n : Nat) : Ok (l.take n) := fun x hx => h x (List.mem_of_mem_take hx)
theorem ok_drop {l : List Int} (h : Ok l) (n : Nat) : Ok (l.drop n) := fun x hx => h x (List.mem_of_mem_drop hx)
theorem ok_set {l : List Int} (h : Ok l) (n : Nat) {x : Int} (hx : 0 ≤ x ∧ x ≤ 255) : Ok (l.set n x) := fun y hy => by
  rcases List.mem_or_eq_of_mem_set hy with hy | rfl
  · exact h y hy
  · exact hx
theorem wf_u8 {x : Int} : (Lit.int .u8 x).wf = true ↔ (0 ≤ x ∧ x ≤ 255) := by
  simp [Lit.wf, IntKind.min, IntKind.max, IntKind.signed, IntKind.bits]
theorem ok_of_wf {l : List Int} (h : ∀ x ∈ l, (Lit.int .u8 x).wf = true) : Ok l := fun x hx => wf_u8.1 (h x hx)
theorem wf_u32 {x : Int} (h : (Lit.int .u32 x).wf = true) : 0 ≤ x ∧ x ≤ 4294967295 := by
  simp [Lit.wf, IntKind.min, IntKind.max, IntKind.signed, IntKind.bits] at h
  omega
theorem wf_i64 {x : Int} (h : (Lit.int .i64 x).wf = true) : -9223372036854775808 ≤ x ∧ x ≤ 9223372036854775807 := by
  simp [Lit.wf, IntKind.min, IntKind.max, IntKind.signed, IntKind.bits] at h
  omega

theorem byte_inj {x y : Int} (hx : 0 ≤ x ∧ x ≤ 255) (hy : 0 ≤ y ∧ y ≤ 255) (h : UInt8.ofNat x.toNat = UInt8.ofNat y.toNat) : x = y := by
  have := congrArg UInt8.toNat h
  simp only [UInt8.toNat_ofNat'] at this
  omega
theorem map_inj : ∀ {l m : List Int}, Ok l → Ok m → l.map (fun n => UInt8.ofNat n.toNat) = m.map (fun n => UInt8.ofNat n.toNat) → l = m
  | [], [], _, _, _ => rfl
  | [], _ :: _, _, _, h => by simp at h
  | _ :: _, [], _, _, h => by simp at h
  | x :: l, y :: m, hl, hm, h => by
    simp only [List.map_cons, List.cons.injEq] at h
    have e := byte_inj (hl x (by simp)) (hm y (by simp)) h.1
    rw [e, map_inj (fun z hz => hl z (List.mem_cons_of_mem _ hz)) (fun z hz => hm z (List.mem_cons_of_mem _ hz)) h.2]
/-- Two texts of bytes are the same just where the bytes are. -/
theorem str_eq {l m : List Int} (hl : Ok l) (hm : Ok m) : (strOfNums l).toList = (strOfNums m).toList ↔ l = m := by
  rw [Lib.strOfNums_toList, Lib.strOfNums_toList]
  exact ⟨map_inj hl hm, fun h => by rw [h]⟩
theorem str_eq' {l m : List Int} (hl : Ok l) (hm : Ok m) (h : l ≠ m) : ¬ (strOfNums l).toList = (strOfNums m).toList := fun e => h ((str_eq hl hm).1 e)

theorem wrap_in (x : Int) (h : -9223372036854775808 ≤ x ∧ x ≤ 9223372036854775807) : wrap64 x = x := by unfold wrap64; omega
theorem rd_at (l : List Int) (i : Nat) (h : i < l.length) : l.getD ((i : Int)).toNat 0 = l[i] := by
  rw [Int.toNat_natCast, List.getD_eq_getElem?_getD, List.getElem?_eq_getElem h]; rfl

end Go.Proofs.Ytedfcjcnhgomoaa.Byt
end
-- MERGED YtedfcjcnhgomoaaRefSum
section
/- What the reference's functions of the check sum come to: the same plain sum. -/
namespace Go.Proofs.Ytedfcjcnhgomoaa.RefSum
open Go.RowKit Go.Proofs.Ytedfcjcnhgomoaa.P Go.Proofs.YtedfcjcnhgomoaaW.PrintWords Go.Proofs.YtedfcjcnhgomoaaW.PrintLast Go.Proofs.Ytedfcjcnhgomoaa.Crc

theorem w1 (j : Nat) (h : j ≤ 140737488355328) : wrap64 ((j : Int) + 1) = ((j + 1 : Nat) : Int) := by unfold wrap64; omega
theorem step_eq (K : Nat) (x j : Int) : variorumref02_step.l0 (K + 1) x j = if j < 8 then (if (Int.tmod x 2) = 1 then (variorumref02_step.l0 K (Go.bits .xor .u32 ((Int.tdiv x 2) % 4294967296) 2197175160) (wrap64 (j + 1))) else (variorumref02_step.l0 K ((Int.tdiv x 2) % 4294967296) (wrap64 (j + 1)))) else (some x) := by
  rw [variorumref02_step.l0]
theorem half2 (u : BitVec 32) : (Int.tdiv (u.toNat : Int) 2) % (4294967296 : Int) = ((u >>> 1).toNat : Int) := by
  rw [Int.tdiv_eq_ediv_of_nonneg (by omega), half]
  have := (u >>> 1).isLt
  omega
theorem odd (u : BitVec 32) : (Int.tmod (u.toNat : Int) 2 = 1) ↔ u.getLsbD 0 = true := by
  rw [Int.tmod_eq_emod_of_nonneg (by omega)]
  simp [BitVec.getLsbD, Nat.testBit_zero]
  omega
theorem step_run : ∀ (m j : Nat) (x : BitVec 32) (k : Nat), j + m = 8 → variorumref02_step.l0 (k + m + 1) (x.toNat : Int) (j : Int) = some ((dns m x).toNat : Int) := by
  intro m
  induction m with
  | zero =>
    intro j x k h
    have hj : ¬ (j : Int) < 8 := by omega
    rw [step_eq, if_neg hj]; rfl
  | succ m ih =>
    intro j x k h
    have hj : (j : Int) < 8 := by omega
    have h1 := ih (j + 1) (dn x) k (by omega)
    have e : k + (m + 1) + 1 = (k + m + 1) + 1 := by omega
    rw [e, step_eq, if_pos hj, half2, w1 j (by omega)]
    cases hb : x.getLsbD 0 with
    | true =>
      rw [if_pos ((odd x).2 hb), show (2197175160 : Int) = ((0x82F63B78#32).toNat : Int) from rfl, bits_xor]
      have hd : dn x = x >>> 1 ^^^ 0x82F63B78#32 := by unfold dn; rw [hb]; rfl
      rw [← hd]
      exact h1
    | false =>
      rw [if_neg (fun hc => by rw [(odd x).1 hc] at hb; cases hb)]
      rw [← dn_even x hb]
      exact h1
theorem step_f (x : BitVec 32) (c : Int) (k : Nat) (hk : 9 ≤ k) : variorumref02_step.f k (x.toNat : Int) c = some ((Crc.step x c).toNat : Int) := by
  unfold variorumref02_step.f
  rw [ofInt_mod, bits_xor]
  have h := step_run 8 0 (x ^^^ BitVec.ofInt 32 c) (k - 9) (by omega)
  have e : k - 9 + 8 + 1 = k := by omega
  rw [e] at h
  exact h
theorem sum_eq (K : Nat) (L : List Int) (x i : Int) : variorumref02_Sum.l0 (K + 1) L x i = if i < (L.length : Int) then (if 0 ≤ i then ((variorumref02_step.f K x (rd L i)).bind fun t120 => (variorumref02_Sum.l0 K L t120 (wrap64 (i + 1)))) else (none)) else (some (Go.bits .xor .u32 x 4294967295)) := by
  rw [variorumref02_Sum.l0]
theorem sum_run (L : List Int) (hL : L.length ≤ 140737488355328) : ∀ (d i k : Nat) (x : BitVec 32), i + d = L.length → variorumref02_Sum.l0 (k + 9 + d + 1) L (x.toNat : Int) (i : Int) = some ((run x (L.drop i) ^^^ ones).toNat : Int) := by
  intro d
  induction d with
  | zero =>
    intro i k x h
    have hi : ¬ (i : Int) < (L.length : Int) := by omega
    rw [sum_eq, if_neg hi, List.drop_of_length_le (by omega), run_nil, show (4294967295 : Int) = (ones.toNat : Int) from rfl, bits_xor]
  | succ d ih =>
    intro i k x h
    have hi : (i : Int) < (L.length : Int) := by omega
    have h0 : (0 : Int) ≤ (i : Int) := by omega
    have e : k + 9 + (d + 1) + 1 = (k + 9 + d + 1) + 1 := by omega
    have h1 := ih (i + 1) k (Crc.step x L[i]) (by omega)
    have hr : rd L (i : Int) = L[i] := by unfold rd; exact Byt.rd_at L i (by omega)
    rw [e, sum_eq, if_pos hi, if_pos h0, hr, step_f _ _ _ (by omega), Option.bind_some, w1 i (by omega), h1, ← run_cons, List.getElem_cons_drop]
theorem sum_f (L : List Int) (hL : L.length ≤ 140737488355328) (k : Nat) (hk : L.length + 10 ≤ k) : variorumref02_Sum.f k L = some ((sum L).toNat : Int) := by
  unfold variorumref02_Sum.f
  have h := sum_run L hL L.length 0 (k - (L.length + 10)) ones (by omega)
  have e : k - (L.length + 10) + 9 + L.length + 1 = k := by omega
  rw [e, List.drop_zero] at h
  exact h
theorem seal_eq (K : Nat) (x : Int) (l : List Int) (i : Int) : variorumref02_Seal.l0 (K + 1) x l i = if i < 4 then (if l.length < 140737488355328 then (variorumref02_Seal.l0 K ((Int.tdiv x 256) % 4294967296) (l ++ [(Int.tmod x 256) % 256]) (wrap64 (i + 1))) else (none)) else (some l) := by
  rw [variorumref02_Seal.l0]
theorem seal_run (y : BitVec 32) (l : List Int) (hl : l.length + 4 < 140737488355328) (k : Nat) : variorumref02_Seal.l0 (k + 4 + 1) (y.toNat : Int) l 0 = some (l ++ le4 y) := by
  have hy := y.isLt
  have e0 : Int.tmod (y.toNat : Int) 256 % 256 = (y.toNat : Int) % 256 := by rw [Int.tmod_eq_emod_of_nonneg (by omega)]; omega
  have d0 : Int.tdiv (y.toNat : Int) 256 % 4294967296 = (y.toNat : Int) / 256 := by rw [Int.tdiv_eq_ediv_of_nonneg (by omega)]; omega
  have e1 : Int.tmod ((y.toNat : Int) / 256) 256 % 256 = (y.toNat : Int) / 256 % 256 := by rw [Int.tmod_eq_emod_of_nonneg (by omega)]; omega
  have d1 : Int.tdiv ((y.toNat : Int) / 256) 256 % 4294967296 = (y.toNat : Int) / 65536 := by rw [Int.tdiv_eq_ediv_of_nonneg (by omega)]; omega
  have e2 : Int.tmod ((y.toNat : Int) / 65536) 256 % 256 = (y.toNat : Int) / 65536 % 256 := by rw [Int.tmod_eq_emod_of_nonneg (by omega)]; omega
  have d2 : Int.tdiv ((y.toNat : Int) / 65536) 256 % 4294967296 = (y.toNat : Int) / 16777216 := by rw [Int.tdiv_eq_ediv_of_nonneg (by omega)]; omega
  have e3 : Int.tmod ((y.toNat : Int) / 16777216) 256 % 256 = (y.toNat : Int) / 16777216 := by rw [Int.tmod_eq_emod_of_nonneg (by omega)]; omega
  have a0 : wrap64 (0 + 1) = 1 := by rw [Byt.wrap_in _ (by decide)]; rfl
  have a1 : wrap64 (1 + 1) = 2 := by rw [Byt.wrap_in _ (by decide)]; rfl
  have a2 : wrap64 (2 + 1) = 3 := by rw [Byt.wrap_in _ (by decide)]; rfl
  have a3 : wrap64 (3 + 1) = 4 := by rw [Byt.wrap_in _ (by decide)]; rfl
  rw [show k + 4 + 1 = (((k + 1) + 1 + 1) + 1) + 1 from rfl]
  rw [seal_eq, if_pos (by decide), if_pos (by omega), e0, d0, a0, seal_eq, if_pos (by decide), if_pos (by simp; omega), e1, d1, a1, seal_eq, if_pos (by decide), if_pos (by simp; omega), e2, d2, a2, seal_eq, if_pos (by decide), if_pos (by simp; omega), e3, a3, seal_eq, if_neg (by decide)]
  simp [le4]
theorem seal_f (L : List Int) (hL : L.length + 4 < 140737488355328) (k : Nat) (hk : L.length + 10 ≤ k) : variorumref02_Seal.f k L = some (L ++ le4 (sum L)) := by
  unfold variorumref02_Seal.f
  rw [sum_f L (by omega) k hk, Option.bind_some, Option.bind_some, if_pos (by simp; omega)]
  have h := seal_run (sum L) L hL (k - 5)
  have e : k - 5 + 4 + 1 = k := by omega
  rw [e] at h
  exact h
theorem seal_some (L : List Int) (hL : L.length + 4 < 140737488355328) : ∃ k, variorumref02_Seal.f k L = some (L ++ le4 (sum L)) := ⟨_, seal_f L hL _ (Nat.le_refl _)⟩
theorem sum_some (L : List Int) (hL : L.length ≤ 140737488355328) : ∃ k, variorumref02_Sum.f k L = some ((sum L).toNat : Int) := ⟨_, sum_f L hL _ (Nat.le_refl _)⟩

end Go.Proofs.Ytedfcjcnhgomoaa.RefSum
end
-- MERGED YtedfcjcnhgomoaaPvariorumref02Open
section
-- Written by wip/myprint.py of this session, over the kit's print.py: a Lean function for each Go function, and the proof that the code comes to it.
namespace Go.Proofs.Ytedfcjcnhgomoaa.P
open Go.RowKit Go.Proofs.YtedfcjcnhgomoaaW.PrintWords Go.Proofs.YtedfcjcnhgomoaaW.PrintLast Go.Proofs.YtedfcjcnhgomoaaW.PrintMore
attribute [local go_sem] max2_int min2_int max_two min_two max_three min_three max_four min_four   -- for this text's walks alone
set_option linter.unusedVariables false
set_option linter.unusedSimpArgs false

/-! ### variorumref02_Open: function 54 -/
-- NEEDS Derived.Test.YtedfcjcnhgomoaaOwn
-- NEEDS Derived.Test.YtedfcjcnhgomoaaCrc
-- NEEDS Derived.Test.YtedfcjcnhgomoaaRefSum
-- NEEDS Derived.Deep.RegionWith
def variorumref02_Open.f (l0 : List Int) : Option (List Int × Bool) := if l0.length ≤ 140737488355000 then (if 4 ≤ l0.length ∧ (strOfNums (l0.take (l0.length - 4) ++ Crc.le4 (Crc.sum (l0.take (l0.length - 4))))).toList = (strOfNums l0).toList then some (l0.take (l0.length - 4), true) else some ([], false)) else none
set_option maxHeartbeats 1000000 in
set_option maxRecDepth 100000 in
theorem variorumref02_Open.short (A0 : Option Addr) (c0 : Nat) (l0 : List Int) (w : World) (h4 : l0.length < 4) :
    Calls Try.prog 54 #[.slice A0 l0.length c0] w fun e w' => e = .returned (.tuple #[.slice none 0 0, .bool false]) ∧ Drawn0 w w' := by
  have g1 : (l0.length : Int) - 4 < 0 := by omega
  go_enter Try.func54, Try.ntmps54
  go_wp2_with fail
  go_quiet (fail)
  go_wp2_with fail
  go_ret2
  exact ⟨rfl, ⟨_, rfl⟩⟩
set_option maxHeartbeats 8000000 in
set_option maxRecDepth 100000 in
theorem variorumref02_Open.calls (P0_ : Nat → Prop) (A0 : Option Addr) (c0 : Nat) (l0 : List Int) (r1 : List Int) (r2 : Bool) (w : World) (hs0 : Kd.V (Kd.int .u8) 5 w w.heap.size (fun k_ => P0_ k_) (.slice A0 l0.length c0) l0) (h : variorumref02_Open.f l0 = some (r1, r2)) :
    Calls Try.prog 54 #[.slice A0 l0.length c0] w fun e w' => ∃ v0_ : Value, e = .returned (.tuple #[v0_, .bool r2]) ∧ Kd.V (Kd.int .u8) 5 w' w.heap.size (fun k_ => (P0_ k_ ∨ w.heap.size ≤ k_)) v0_ r1 ∧ Below w.heap.size w w' := by
  unfold variorumref02_Open.f at h
  by_cases hlen : l0.length ≤ 140737488355000
  · rw [if_pos hlen] at h
    have hcap : l0.length ≤ c0 := (Kd.V_reads' hs0).2.1
    have HS := Aside0.mk hs0
    by_cases h4 : 4 ≤ l0.length
    · have g1 : decide ((l0.length : Int) - 4 < 0) = false := by simp; omega
      have g2 : (0 : Int) ≤ (l0.length : Int) - 4 := by omega
      have g3 : (l0.length : Int) - 4 ≤ (l0.length : Int) := by omega
      obtain ⟨i0, hi0, _, hsz, _⟩ := info_parts info5
      have hcut := cut_to (P := Try.prog) 25 5 .i64 Try.underlying25 hi0 A0 l0.length c0 ((l0.length : Int) - 4) g2 g3 hcap
      have htn : ((l0.length : Int) - 4).toNat = l0.length - 4 := by omega
      rw [htn] at hcut
      have htl : (l0.take (l0.length - 4)).length = l0.length - 4 := by rw [List.length_take]; omega
      obtain ⟨p, hp⟩ : ∃ p, p = l0.take (l0.length - 4) := ⟨_, rfl⟩
      rw [← hp] at htl h
      have hCp : ∀ W, Kd.C (Kd.int .u8) W A0 l0.length l0 → Kd.C (Kd.int .u8) W A0 p.length p := fun W hW => by rw [htl, hp]; exact Own.C_take hW _ (by omega)
      rw [← htl] at hcut
      have HP := Aside0.mk hp
      have HT := Aside0.mk htl
      clear hp htl htn hi0 hsz
      have hcv : ∀ W, Below w.heap.size w W → (convert 25 9 (.slice A0 l0.length c0)).run Try.prog W = .ok (.string (strOfNums l0)) W := fun W hW =>
        Kd.C_string Try.underlying25 Try.underlying5 Try.underlying9 (Kd.C_below (Kd.V_reads' HS.out).2.2 hW)
      have hb0 := Below.refl w.heap.size w
      have hbd : Below w.heap.size w w.drew := below_drew1 hb0
      obtain ⟨k1, hs⟩ := RefSum.seal_some p (by have := HT.out; omega)
      have A1 := Aside0.mk hs
      clear hs
      have hF : ∀ W, Below w.heap.size w W → Kd.V (Kd.int .u8) 5 W w.heap.size (fun k_ => (P0_ k_ ∨ w.heap.size ≤ k_)) (.slice A0 p.length c0) p := fun W hW => by
        refine Kd.V_mk (by have := HT.out; omega) ?_
        have h1 := Kd.F_take (m := l0.length - 4) (Kd.V_at HS.out).2.2 (by omega)
        rw [← HP.out] at h1
        exact Kd.F_mono (Kd.F_below h1 hW) (fun _ h => .inl h)
      by_cases he : (strOfNums (p ++ Crc.le4 (Crc.sum p))).toList = (strOfNums l0).toList
      · rw [if_pos ⟨h4, he⟩] at h
        simp only [Option.some.injEq, Prod.mk.injEq] at h
        obtain ⟨rfl, rfl⟩ := h
        have hq : ((strOfNums (p ++ Crc.le4 (Crc.sum p))).toList == (strOfNums l0).toList) = true := beq_iff_eq.mpr he
        clear he
        go_enter Try.func54, Try.ntmps54
        go_wp2_with fail
        go_region_with (go_at_call 42; refine (variorumref02_Seal.calls k1 A0 c0 p _ _ ?_ ?_ A1.out).mono ?_; exact hCp _ (Kd.C_below (Kd.V_reads' HS.out).2.2 hbd); (have := HT.out; omega); rintro e w' ⟨v, rfl, ho, hb⟩; have hb1 : Below w.heap.size w w' := below_step hbd hb; have hcv1 := own_string (P := Try.prog) Try.underlying25 Try.underlying5 Try.underlying9 (Kd.own_of_R ho))
        all_goals (go_wp2_with fail; go_ret2; exact ⟨_, rfl, hF _ (by assumption), by assumption⟩)
      · rw [if_neg (fun h => he h.2)] at h
        simp only [Option.some.injEq, Prod.mk.injEq] at h
        obtain ⟨rfl, rfl⟩ := h
        have hq : ((strOfNums (p ++ Crc.le4 (Crc.sum p))).toList == (strOfNums l0).toList) = false := beq_eq_false_iff_ne.mpr he
        clear he
        go_enter Try.func54, Try.ntmps54
        go_wp2_with fail
        go_region_with (go_at_call 42; refine (variorumref02_Seal.calls k1 A0 c0 p _ _ ?_ ?_ A1.out).mono ?_; exact hCp _ (Kd.C_below (Kd.V_reads' HS.out).2.2 hbd); (have := HT.out; omega); rintro e w' ⟨v, rfl, ho, hb⟩; have hb1 : Below w.heap.size w w' := below_step hbd hb; have hcv1 := own_string (P := Try.prog) Try.underlying25 Try.underlying5 Try.underlying9 (Kd.own_of_R ho))
        all_goals (go_wp2_with fail; go_ret2; exact ⟨_, rfl, Kd.V_nil _ _ _ _ _, by assumption⟩)
    · rw [if_neg (fun h => h4 h.1)] at h
      simp only [Option.some.injEq, Prod.mk.injEq] at h
      obtain ⟨rfl, rfl⟩ := h
      refine (variorumref02_Open.short A0 c0 l0 w (by omega)).mono ?_
      rintro e w' ⟨rfl, hd⟩
      exact ⟨_, rfl, Kd.V_nil _ _ _ _ _, hd.below⟩
  · rw [if_neg hlen] at h; cases h

end Go.Proofs.Ytedfcjcnhgomoaa.P
end
-- MERGED YtedfcjcnhgomoaaNice2
section
/- The contracts of the check sum's functions, over slices that are read. -/
namespace Go.Proofs.Ytedfcjcnhgomoaa.Nice
open Go.RowKit Go.Proofs.Ytedfcjcnhgomoaa.P Go.Proofs.YtedfcjcnhgomoaaW.PrintWords Go.Proofs.YtedfcjcnhgomoaaW.PrintLast Go.Proofs.YtedfcjcnhgomoaaW.PrintMore Go.Proofs.Ytedfcjcnhgomoaa.Own

/-- Are bytes sealed? -/
def sealedP (l : List Int) : Prop := 4 ≤ l.length ∧ (strOfNums (l.take (l.length - 4) ++ Crc.le4 (Crc.sum (l.take (l.length - 4))))).toList = (strOfNums l).toList
instance (l : List Int) : Decidable (sealedP l) := inferInstanceAs (Decidable (_ ∧ _))
def openL (l : List Int) : List Int := if sealedP l then l.take (l.length - 4) else []
def openB (l : List Int) : Bool := decide (sealedP l)
def sealL (l : List Int) : List Int := l ++ Crc.le4 (Crc.sum l)
theorem sealL_length (l : List Int) : (sealL l).length = l.length + 4 := by unfold sealL; rw [List.length_append]; rfl
theorem le4_ok (x : BitVec 32) : Byt.Ok (Crc.le4 x) := by
  intro y hy
  have hlt := x.isLt
  simp only [Crc.le4, List.mem_cons, List.not_mem_nil, or_false] at hy
  omega
theorem sealL_ok {l : List Int} (h : Byt.Ok l) : Byt.Ok (sealL l) := Byt.ok_append h (le4_ok _)
theorem sealed_seal (l : List Int) : sealedP (sealL l) := by
  have e : (sealL l).take ((sealL l).length - 4) = l := by
    rw [sealL_length, Nat.add_sub_cancel]
    unfold sealL
    rw [List.take_left]
  refine ⟨by rw [sealL_length]; omega, ?_⟩
  rw [e]; rfl
theorem openL_seal (l : List Int) : openL (sealL l) = l := by
  unfold openL
  rw [if_pos (sealed_seal l), sealL_length, Nat.add_sub_cancel]
  unfold sealL
  rw [List.take_left]
theorem openB_seal (l : List Int) : openB (sealL l) = true := decide_eq_true (sealed_seal l)
theorem open_f (l : List Int) (h : l.length ≤ 140737488355000) : sum32_Open.f l = some (openL l, openB l) := by
  unfold sum32_Open.f openL openB
  rw [if_pos h]
  by_cases c : sealedP l
  · rw [if_pos c, decide_eq_true c]; exact if_pos c
  · rw [if_neg c, decide_eq_false c]; exact if_neg c
theorem ropen_f (l : List Int) (h : l.length ≤ 140737488355000) : variorumref02_Open.f l = some (openL l, openB l) := open_f l h

theorem nSum (v : Value) (l : List Int) (w : World) (h : Sl w v l) (hl : l.length ≤ 1000000) : Calls Try.prog 83 #[v] w fun e w' => e = .returned (.int .u32 ((Crc.sum l).toNat : Int)) ∧ Below w.heap.size w w' := by
  obtain ⟨A, c, rfl, hc, hC⟩ := h
  obtain ⟨k, hk⟩ := SumF.sum_some l (by omega)
  exact (sum32_Sum.calls k A c l _ w hC hc hk).mono fun e w' ⟨he, hd⟩ => ⟨he, hd.below⟩
theorem nRefSum (v : Value) (l : List Int) (w : World) (h : Sl w v l) (hl : l.length ≤ 1000000) : Calls Try.prog 84 #[v] w fun e w' => e = .returned (.int .u32 ((Crc.sum l).toNat : Int)) ∧ Below w.heap.size w w' := by
  obtain ⟨A, c, rfl, hc, hC⟩ := h
  obtain ⟨k, hk⟩ := RefSum.sum_some l (by omega)
  exact (variorumref02_Sum.calls k A c l _ w hC hc hk).mono fun e w' ⟨he, hd⟩ => ⟨he, hd.below⟩
theorem nSeal (v : Value) (l : List Int) (w : World) (h : Sl w v l) (hl : l.length ≤ 1000000) : Calls Try.prog 39 #[v] w fun e w' => ∃ v', e = .returned v' ∧ Sl w' v' (sealL l) ∧ Below w.heap.size w w' := by
  obtain ⟨A, c, rfl, hc, hC⟩ := h
  have hk : sum32_Seal.f l = some (sealL l) := by unfold sum32_Seal.f; rw [if_pos (by omega)]; rfl
  exact (sum32_Seal.calls A c l _ w hC hc hk).mono fun e w' ⟨v', he, hr, hb⟩ => ⟨v', he, Sl.of_R hr, hb⟩
theorem nRefSeal (v : Value) (l : List Int) (w : World) (h : Sl w v l) (hl : l.length ≤ 1000000) : Calls Try.prog 42 #[v] w fun e w' => ∃ v', e = .returned v' ∧ Sl w' v' (sealL l) ∧ Below w.heap.size w w' := by
  obtain ⟨A, c, rfl, hc, hC⟩ := h
  obtain ⟨k, hk⟩ := RefSum.seal_some l (by omega)
  exact (variorumref02_Seal.calls k A c l _ w hC hc hk).mono fun e w' ⟨v', he, hr, hb⟩ => ⟨v', he, Sl.of_R hr, hb⟩
theorem nOpen (v : Value) (l : List Int) (w : World) (h : Sl w v l) (hl : l.length ≤ 1000000) : Calls Try.prog 50 #[v] w fun e w' => ∃ v', e = .returned (.tuple #[v', .bool (openB l)]) ∧ Sl w' v' (openL l) ∧ Below w.heap.size w w' := by
  have hV := Sl.to_V (e := 5) (base := w.heap.size) h
  obtain ⟨A, c, rfl, hc, hC⟩ := h
  exact (sum32_Open.calls _ A c l _ _ w hV (open_f l (by omega))).mono fun e w' ⟨v', he, hr, hb⟩ => ⟨v', he, Sl.of_V hr, hb⟩
theorem nRefOpen (v : Value) (l : List Int) (w : World) (h : Sl w v l) (hl : l.length ≤ 1000000) : Calls Try.prog 54 #[v] w fun e w' => ∃ v', e = .returned (.tuple #[v', .bool (openB l)]) ∧ Sl w' v' (openL l) ∧ Below w.heap.size w w' := by
  have hV := Sl.to_V (e := 5) (base := w.heap.size) h
  obtain ⟨A, c, rfl, hc, hC⟩ := h
  exact (variorumref02_Open.calls _ A c l _ _ w hV (ropen_f l (by omega))).mono fun e w' ⟨v', he, hr, hb⟩ => ⟨v', he, Sl.of_V hr, hb⟩
theorem nOpenSeal (v : Value) (l : List Int) (w : World) (h : Sl w v (sealL l)) (hl : l.length ≤ 999990) : Calls Try.prog 50 #[v] w fun e w' => ∃ v', e = .returned (.tuple #[v', .bool true]) ∧ Sl w' v' l ∧ Below w.heap.size w w' := by
  have hk := nOpen v (sealL l) w h (by rw [sealL_length]; omega)
  rw [openB_seal, openL_seal] at hk
  exact hk

end Go.Proofs.Ytedfcjcnhgomoaa.Nice
end
-- MERGED YtedfcjcnhgomoaaGr
section
/- A slice of bytes that grows: either it is full (nothing can be written into it) or its row is the call's own; appends, of bytes and of strings, in the walk and in regions. -/
namespace Go.Proofs.Ytedfcjcnhgomoaa.Own
open Go.RowKit Go.Proofs.YtedfcjcnhgomoaaW.PrintWords Go.Proofs.YtedfcjcnhgomoaaW.PrintLast Go.Proofs.YtedfcjcnhgomoaaW.PrintMore

/-- A string's bytes, as numbers. -/
def numsOf (s : ByteArray) : List Int := s.data.toList.map fun b => (b.toNat : Int)
theorem numsOf_length (s : ByteArray) : (numsOf s).length = s.size := by
  unfold numsOf; rw [List.length_map, Array.length_toList]; rfl
theorem nums_numsOf (s : ByteArray) : nums .u8 (numsOf s) = Lib.strCells s := by
  unfold nums numsOf Lib.strCells; rw [List.map_map]; rfl
theorem ok_numsOf (s : ByteArray) : Byt.Ok (numsOf s) := by
  intro x hx
  unfold numsOf at hx
  rw [List.mem_map] at hx
  obtain ⟨b, _, rfl⟩ := hx
  have := b.toNat_lt
  omega
theorem strOf_numsOf (s : ByteArray) : strOfNums (numsOf s) = s := by
  have e : ((fun n : Int => UInt8.ofNat n.toNat) ∘ fun b : UInt8 => (b.toNat : Int)) = id := by
    funext b; simp
  apply ByteArray.ext
  unfold strOfNums numsOf
  rw [List.map_map, e, List.map_id]

def Gr (B : Nat) (e : TypeId) (w : World) (v : Value) (xs : List Int) : Prop :=
  (∃ A, v = .slice A xs.length xs.length ∧ Kd.C (Kd.int .u8) w A xs.length xs) ∨ w.ownsRow B e 1 v xs.length (nums .u8 xs)

theorem ownsRow_below {w w' : World} {B : Nat} {e : TypeId} {size : Nat} {v : Value} {n : Nat} {xs : List Value} (h : w.ownsRow B e size v n xs) (hb : Below w.heap.size w w') : w'.ownsRow B e size v n xs :=
  h.kept (row := none) ⟨hb.os, hb.tape, hb.output, hb.size, fun k hk _ => hb.block k hk⟩ (by cases v.ownBlock <;> simp)
theorem Sl.of_own {w : World} {B : Nat} {e : TypeId} {v : Value} {xs : List Int} (h : w.ownsRow B e 1 v xs.length (nums .u8 xs)) : Sl w v xs :=
  Sl.of_R (e := e) (base := B) (ok := fun _ => True) (Kd.R_of_own h (fun _ _ => trivial))
theorem Gr.sl {B : Nat} {e : TypeId} {w : World} {v : Value} {xs : List Int} (h : Gr B e w v xs) : Sl w v xs := by
  rcases h with ⟨A, rfl, hC⟩ | h
  · exact ⟨A, xs.length, rfl, Nat.le_refl _, hC⟩
  · exact Sl.of_own h
theorem Gr.below {B : Nat} {e : TypeId} {w w' : World} {v : Value} {xs : List Int} (h : Gr B e w v xs) (hb : Below w.heap.size w w') : Gr B e w' v xs := by
  rcases h with ⟨A, rfl, hC⟩ | h
  · exact .inl ⟨A, rfl, Kd.C_below hC hb⟩
  · exact .inr (ownsRow_below h hb)
theorem Gr.mono {B B' : Nat} {e : TypeId} {w : World} {v : Value} {xs : List Int} (h : Gr B e w v xs) (hB : B' ≤ B) : Gr B' e w v xs := h.imp id (fun h => h.mono hB)
theorem Gr.drew {B : Nat} {e : TypeId} {w : World} {v : Value} {xs : List Int} (h : Gr B e w v xs) : Gr B e w.drew v xs := h.below (below_drew1 (Below.refl _ _))
theorem Gr.alloc {B : Nat} {e : TypeId} {w : World} {v : Value} {xs : List Int} (h : Gr B e w v xs) (o : Obj) : Gr B e (w.alloc o) v xs := h.below (below_alloc (Below.refl _ _) o)
theorem Gr.cut {w : World} {A : Option Addr} {n c : Nat} {xs : List Int} (B : Nat) (e : TypeId) (h : Sl w (.slice A n c) xs) : Gr B e w (.slice A n n) xs := by
  obtain ⟨rfl, _, hC⟩ := h.toC
  exact .inl ⟨A, rfl, hC⟩
theorem Gr.nil (B : Nat) (e : TypeId) (w : World) : Gr B e w (.slice none 0 0) [] := .inl ⟨none, rfl, Kd.C_nil _ _⟩
theorem Gr.of_R {B : Nat} {e : TypeId} {w : World} {ok : Nat → Prop} {v : Value} {xs : List Int} (h : Kd.R (Kd.int .u8) e w B ok v xs) : Gr B e w v xs := .inr (Kd.own_of_R h)
/-- One byte that has just been laid. -/
theorem Sl.one (w : World) (x : Int) (T : TypeId) (fr : Nat × Nat) : Sl (w.alloc (.cells #[.int .u8 x] T fr)) (.slice (some ⟨w.heap.size, 0, none⟩) 1 1) [x] :=
  Sl.mk (C_of_lit .u8 [x] (heap_new w _) rfl (by simp)) (by simp)

theorem C_len {w : World} {A : Option Addr} {n : Nat} {xs : List Int} (h : Kd.C (Kd.int .u8) w A n xs) : xs.length = n := h.1
/-- An append to a slice that grows: of a slice's bytes. -/
theorem exec_gr {P : Program} {w : World} {f : Operand → Value} {o : Oper} {s x : Operand} {t e : TypeId} {B : Nat} (hop : o.op = Op.call { callee := Callee.builtin Builtin.append, args := #[s, x], argTypes := #[t, t] })
    (h1 : P.underlying t = some (.slice e)) (hi : (P.info? e).map (fun i => (i.zero, i.size, i.bytes)) = some (some (.int .u8 0), 1, 1)) (hB : B ≤ w.heap.size)
    {vs : Value} {xs : List Int} (hs : f s = vs) (hx : Gr B e w vs xs) {v : Value} {ys : List Int} (he : f x = v) (hy : Sl w v ys)
    (b1 : xs.length + ys.length ≤ 140737488355328) :
    ∃ v' w', (execOp f o).run P w = .ok (.value v') w' ∧ Gr B e w' v' (xs ++ ys) ∧ Below B w w' := by
  obtain ⟨i0, hi0, hz0, hz1, hz2⟩ := info_parts hi
  obtain ⟨A2, c2, rfl, hc2, hC2⟩ := hy
  have hm : xs.length + ys.length ≤ maxLen := by unfold maxLen; omega
  have e1 : (xs ++ ys).length = xs.length + ys.length := List.length_append
  have e2 : nums .u8 (xs ++ ys) = nums .u8 xs ++ nums .u8 ys := nums_append _ _ _
  rcases Nat.eq_zero_or_pos ys.length with h0 | hp
  · obtain rfl : ys = [] := List.eq_nil_of_length_eq_zero h0
    have hsrc : Src P i0.size t (.slice A2 ([] : List Int).length c2) 0 [] w := by
      cases A2 with
      | none => exact Src.ofNil _ h1 c2
      | some ad => exact Src.ofSlice _ h1 ad 0 c2 [] (by simp) (fun j u hj => by cases j <;> cases hj) (fun u hu => by cases hu)
    obtain ⟨A, c, rfl, hc, _⟩ := hx.sl
    have hrun := run_append_nothing (P := P) w t t o.type e i0 h1 hi0 A xs.length c hc _ hsrc
    refine ⟨.slice A xs.length c, w, ?_, by rw [List.append_nil]; exact hx, Below.refl _ _⟩
    have hrun' : (Builtin.append_ #[t, t] o.type #[Value.slice A xs.length c, Value.slice A2 0 c2]).run P w = .ok (.slice A xs.length c) w := hrun
    simp [execOp, hop, resolve, invoke, builtin, hs, he, hrun', Result.andThen]
  · obtain ⟨ad, hA2, _⟩ := hC2.2.2 hp
    subst hA2
    have hC : ∀ j u, (nums .u8 ys)[j]? = some u → w.cell? (ad.add j) = some u := fun j u hu => C_cells hC2 ad rfl j u hu
    have one : ∀ u ∈ nums .u8 ys, u.oneCell' = true := fun u hu => by
      rw [nums, List.mem_map] at hu
      obtain ⟨z, _, rfl⟩ := hu
      rfl
    have own : ∀ B', B ≤ B' → B' ≤ w.heap.size → w.ownsRow B' e 1 vs xs.length (nums .u8 xs) → ∃ v' w', (execOp f o).run P w = .ok (.value v') w' ∧ Gr B e w' v' (xs ++ ys) ∧ Below B w w' := by
      intro B' hBB hB' ho
      obtain ⟨v', w', hrun, r1, r2, _⟩ := run_append_own (P := P) w B' t o.type e i0 (.int .u8 0) 1 1 h1 hi0 hz0 hz1 hz2 rfl (by decide) vs xs.length (nums .u8 xs) ho ad ys.length c2 (nums .u8 ys) (by rw [nums_length]; omega) hC one hm (by omega) hB'
      refine ⟨v', w', ?_, .inr ?_, (Below.refl _ w).grown r2 hB (fun k e => Nat.le_trans hBB (ho.lt k e).1)⟩
      · simp [execOp, hop, resolve, invoke, builtin, hs, he, hrun, Result.andThen]
      · rw [e1, e2]; exact r1.mono hBB
    rcases hx with ⟨A, rfl, hx⟩ | ho
    · cases A with
      | some b =>
        obtain ⟨v', w', hrun, r1, r2⟩ := run_append_arg_grows (P := P) w t o.type e i0 (.int .u8 0) 1 1 h1 hi0 hz0 hz1 hz2 rfl (by decide) b xs.length xs.length (nums .u8 xs) (by rw [nums_length]; omega) (fun j u hu => C_cells hx b rfl j u hu) ad ys.length c2 (nums .u8 ys) (by rw [nums_length]; omega) hC (by omega) hm (by omega)
        refine ⟨v', w', ?_, .inr ?_, (Below.refl _ w).grown r2 hB (fun k e => by cases e)⟩
        · simp [execOp, hop, resolve, invoke, builtin, hs, he, hrun, Result.andThen]
        · rw [e1, e2]; exact r1.mono hB
      | none =>
        have h0 : xs.length = 0 := C_none hx rfl
        obtain rfl : xs = [] := List.eq_nil_of_length_eq_zero h0
        exact own w.heap.size hB (Nat.le_refl _) (World.ownsRow_nil w _ e 1)
    · exact own B (Nat.le_refl _) hB ho
/-- .. of a string's bytes. -/
theorem exec_gr_str {P : Program} {w : World} {f : Operand → Value} {o : Oper} {s x : Operand} {t tx e : TypeId} {B : Nat} (hop : o.op = Op.call { callee := Callee.builtin Builtin.append, args := #[s, x], argTypes := #[t, tx] })
    (h1 : P.underlying t = some (.slice e)) (h2 : P.underlying tx = some .string) (hi : (P.info? e).map (fun i => (i.zero, i.size, i.bytes)) = some (some (.int .u8 0), 1, 1)) (hB : B ≤ w.heap.size)
    {vs : Value} {xs : List Int} (hs : f s = vs) (hx : Gr B e w vs xs) {u : ByteArray} (he : f x = .string u)
    (b1 : xs.length + u.size ≤ 140737488355328) :
    ∃ v' w', (execOp f o).run P w = .ok (.value v') w' ∧ Gr B e w' v' (xs ++ numsOf u) ∧ Below B w w' := by
  obtain ⟨i0, hi0, hz0, hz1, hz2⟩ := info_parts hi
  have hm : xs.length + u.size ≤ maxLen := by unfold maxLen; omega
  have e1 : (xs ++ numsOf u).length = xs.length + u.size := by rw [List.length_append, numsOf_length]
  have e2 : nums .u8 (xs ++ numsOf u) = nums .u8 xs ++ Lib.strCells u := by rw [nums_append, nums_numsOf]
  have own : ∀ B', B ≤ B' → B' ≤ w.heap.size → w.ownsRow B' e 1 vs xs.length (nums .u8 xs) → ∃ v' w', (execOp f o).run P w = .ok (.value v') w' ∧ Gr B e w' v' (xs ++ numsOf u) ∧ Below B w w' := by
    intro B' hBB hB' ho
    obtain ⟨v', w', hrun, r1, r2, _⟩ := Lib.run_append_own_string (P := P) w B' t tx o.type e i0 h1 h2 hi0 hz0 hz1 hz2 vs xs.length (nums .u8 xs) ho u hm b1 hB'
    refine ⟨v', w', ?_, .inr ?_, (Below.refl _ w).grown r2 hB (fun k e => Nat.le_trans hBB (ho.lt k e).1)⟩
    · simp [execOp, hop, resolve, invoke, builtin, hs, he, hrun, Result.andThen]
    · rw [e1, e2]; exact r1.mono hBB
  rcases hx with ⟨A, rfl, hx⟩ | ho
  · rcases Nat.eq_zero_or_pos u.size with h0 | hp
    · have hn : numsOf u = [] := List.eq_nil_of_length_eq_zero (by rw [numsOf_length]; exact h0)
      have hb0 : byteCells u = [] := List.eq_nil_of_length_eq_zero (by rw [byteCells_length]; exact h0)
      have hsrc := Src.ofString (P := P) w h2 u
      rw [h0, hb0] at hsrc
      have hrun := run_append_nothing (P := P) w t tx o.type e i0 h1 hi0 A xs.length xs.length (Nat.le_refl _) (.string u) (hz1 ▸ hsrc)
      refine ⟨.slice A xs.length xs.length, w, ?_, .inl ⟨A, by rw [hn, List.append_nil], by rw [hn, List.append_nil]; exact hx⟩, Below.refl _ _⟩
      simp [execOp, hop, resolve, invoke, builtin, hs, he, hrun, Result.andThen]
    · cases A with
      | none =>
        have h0 : xs.length = 0 := C_none hx rfl
        obtain rfl : xs = [] := List.eq_nil_of_length_eq_zero h0
        exact own w.heap.size hB (Nat.le_refl _) (World.ownsRow_nil w _ e 1)
      | some b =>
        have hC : ∀ j v, (nums .u8 xs)[j]? = some v → w.cell? (b.add j) = some v := fun j v hv => C_cells hx b rfl j v hv
        have hold := run_firstCells_some (P := P) w.drew i0.size xs.length b xs.length xs.length (nums .u8 xs) (by rw [nums_length, hz1]; omega) hC
        have hsrc := Src.ofString (P := P) w h2 u
        have hgc := growslice_fits (need := xs.length + u.size) (old := xs.length) (bytes := 1) (by omega) (by omega)
        have hrun := run_append_grow_src (P := P) w t tx o.type e i0 (.int .u8 0) h1 hi0 hz0 (some b) xs.length xs.length (nums .u8 xs) hold (.string u) u.size (byteCells u) (hz1 ▸ hsrc) (by omega) (by omega) (by rw [hz2]; exact hgc)
        have H : ∀ v' w', (Builtin.append_ #[t, tx] o.type #[Value.slice (some b) xs.length xs.length, Value.string u]).run P w = .ok v' w' → (execOp f o).run P w = .ok (.value v') w' := fun v' w' hr => by
          simp [execOp, hop, resolve, invoke, builtin, hs, he, hr, Result.andThen]
        refine ⟨_, _, H _ _ hrun, .inr ?_, (below_alloc (below_drew1 (Below.refl w.heap.size w)) _).mono hB⟩
        rw [e1]
        have hcl : (nums .u8 xs ++ byteCells u) = nums .u8 (xs ++ numsOf u) := by rw [e2]; rfl
        have hlen : (nums .u8 (xs ++ numsOf u)).length = xs.length + u.size := by rw [nums_length, e1]
        refine ⟨by rw [hlen]; omega, .inr ⟨w.heap.size, _, _, rfl, hB, heap_alloc_new w.drew _, grownCap_ge w _ _ e, grownCap_le_maxLen w _ _ e hm, ?_, ?_⟩⟩
        · have hge := grownCap_ge w (xs.length + u.size) xs.length e
          rw [hcl]
          simp only [Array.size_append, List.size_toArray, size_zeroCells, hlen]
          simp only [Value.cells, Array.size]
          simp
          omega
        · rw [hcl]
          simp only [Array.toList_append, Nat.mul_one]
          rw [← hlen]
          exact List.take_left
  · exact own B (Nat.le_refl _) hB ho

/-- What an operation comes to, for the walk. -/
theorem wpList_ex {P : Program} {ops : Array Oper} {rest : List Oper} {o : Oper} {a : Act} {w w' : World} {v' : Value} {Q : Exit → Act → World → Prop} (hg : o.guard = none) (hrun : (execOp a.eval o).run P w = .ok (.value v') w')
    (hK : wpList P ops Q rest (a.put o.dst v') w') : wpList P ops Q (o :: rest) a w := by
  refine wpList_plain hg fun K hK' => ?_
  unfold Oper.wp
  rw [hrun]
  exact hK' _ _ hK
theorem wpList_gr {P : Program} {ops : Array Oper} {rest : List Oper} {o : Oper} {a : Act} {w : World} {Q : Exit → Act → World → Prop} {s x : Operand} {t e : TypeId} {B : Nat} (hg : o.guard = none)
    (hop : o.op = Op.call { callee := Callee.builtin Builtin.append, args := #[s, x], argTypes := #[t, t] })
    (h1 : P.underlying t = some (.slice e)) (hi : (P.info? e).map (fun i => (i.zero, i.size, i.bytes)) = some (some (.int .u8 0), 1, 1)) (hB : B ≤ w.heap.size)
    {vs : Value} {xs : List Int} (hs : a.eval s = vs) (hx : Gr B e w vs xs) {v : Value} {ys : List Int} (he : a.eval x = v) (hy : Sl w v ys) (b1 : xs.length + ys.length ≤ 140737488355328)
    (hK : ∀ v' w', Gr B e w' v' (xs ++ ys) → Below B w w' → wpList P ops Q rest (a.put o.dst v') w') : wpList P ops Q (o :: rest) a w := by
  obtain ⟨v', w', hrun, r1, r2⟩ := exec_gr (P := P) (o := o) (f := a.eval) hop h1 hi hB hs hx he hy b1
  exact wpList_ex hg hrun (hK v' w' r1 r2)
theorem wpList_gr_str {P : Program} {ops : Array Oper} {rest : List Oper} {o : Oper} {a : Act} {w : World} {Q : Exit → Act → World → Prop} {s x : Operand} {t tx e : TypeId} {B : Nat} (hg : o.guard = none)
    (hop : o.op = Op.call { callee := Callee.builtin Builtin.append, args := #[s, x], argTypes := #[t, tx] })
    (h1 : P.underlying t = some (.slice e)) (h2 : P.underlying tx = some .string) (hi : (P.info? e).map (fun i => (i.zero, i.size, i.bytes)) = some (some (.int .u8 0), 1, 1)) (hB : B ≤ w.heap.size)
    {vs : Value} {xs : List Int} (hs : a.eval s = vs) (hx : Gr B e w vs xs) {u : ByteArray} (he : a.eval x = .string u) (b1 : xs.length + u.size ≤ 140737488355328)
    (hK : ∀ v' w', Gr B e w' v' (xs ++ numsOf u) → Below B w w' → wpList P ops Q rest (a.put o.dst v') w') : wpList P ops Q (o :: rest) a w := by
  obtain ⟨v', w', hrun, r1, r2⟩ := exec_gr_str (P := P) (o := o) (f := a.eval) hop h1 h2 hi hB hs hx he b1
  exact wpList_ex hg hrun (hK v' w' r1 r2)
theorem Sl.lit {w : World} {C : Array Value} {T : TypeId} {fr : Nat × Nat} {l : List Int} (hC : C.toList = nums .u8 l) (hm : l.length ≤ 9223372036854775807) : Sl (w.alloc (.cells C T fr)) (.slice (some ⟨w.heap.size, 0, none⟩) l.length l.length) l :=
  Sl.mk (C_of_lit .u8 l (heap_new w _) hC hm) (Nat.le_refl _)
theorem Sl.take {w : World} {A : Option Addr} {n c : Nat} {l : List Int} (h : Sl w (.slice A n c) l) (k : Nat) (hk : k ≤ n) : Sl w (.slice A k c) (l.take k) := by
  obtain ⟨rfl, hc, hC⟩ := h.toC
  have hl : (l.take k).length = k := by rw [List.length_take]; omega
  have := C_take hC k hk
  exact ⟨A, c, by rw [hl], by rw [hl]; omega, by rw [hl]; exact this⟩
/-- A slice literal in a region that draws its order. -/
theorem value_lit {P : Program} {oi : Oper} {ops : Array Oper} {Q : Exit → Act → World → Prop} {N : Option Tmp} {a : Act} {w : World} {K : Act → World → Prop} {C : Array Value} {T : TypeId} {l : List Int} (hw : Region.wanted oi (yielded ops a.tmps) = true) (hN : oi.dst = N)
    (hrun : (execOp a.eval oi).run P w = .ok (.value (.slice (some ⟨w.heap.size, 0, none⟩) l.length l.length)) (w.alloc (.cells C T))) (hC : C.toList = nums .u8 l) (hm : l.length ≤ 9223372036854775807)
    (h : ∀ v' w', Sl w' v' l → Below w.heap.size w w' → K (a.put N v') w') : if Region.wanted oi (yielded ops a.tmps) = true then Oper.wp P oi a w K Q else K (a.put N undef) w :=
  value_ hw hN hrun (h _ _ (Sl.lit hC hm) (below_alloc (Below.refl _ _) _))
end Go.Proofs.Ytedfcjcnhgomoaa.Own
end
-- MERGED YtedfcjcnhgomoaaVaryL
section
/- The plain law of numbers and texts as bytes: one way to write a number, what was put is read; no program in sight. -/
namespace Go.Proofs.Ytedfcjcnhgomoaa.Vy
open Go.RowKit

abbrev M : Int := 4611686018427387904
/-- A number's bytes. -/
def enc (n : Nat) : List Int := if n < 128 then [(n : Int)] else ((n % 128 + 128 : Nat) : Int) :: enc (n / 128)
termination_by n
decreasing_by omega
theorem enc_lt {n : Nat} (h : n < 128) : enc n = [(n : Int)] := by rw [enc, if_pos h]
theorem enc_ge {n : Nat} (h : 128 ≤ n) : enc n = ((n % 128 + 128 : Nat) : Int) :: enc (n / 128) := by rw [enc, if_neg (by omega)]
theorem enc_pos (n : Nat) : 0 < (enc n).length := by
  rw [enc]; split <;> simp
theorem enc_len : ∀ (k n : Nat), n < 128 ^ (k + 1) → (enc n).length ≤ k + 1 := by
  intro k
  induction k with
  | zero => intro n h; rw [enc_lt (by simpa using h)]; simp
  | succ k ih =>
    intro n h
    by_cases hn : n < 128
    · rw [enc_lt hn]; simp
    · rw [enc_ge (by omega), List.length_cons]
      have := ih (n / 128) (by rw [Nat.div_lt_iff_lt_mul (by decide)]; rw [Nat.pow_succ] at h; exact h)
      omega
theorem enc_len9 {n : Nat} (h : n ≤ 4611686018427387904) : (enc n).length ≤ 9 := enc_len 8 n (by omega)
theorem ok_enc (n : Nat) : Byt.Ok (enc n) := by
  induction n using Nat.strongRecOn with
  | _ n ih =>
    by_cases hn : n < 128
    · rw [enc_lt hn]; exact Byt.ok_cons (by omega) Byt.ok_nil
    · rw [enc_ge (by omega)]; exact Byt.ok_cons (by omega) (ih (n / 128) (by omega))

/-- The number with which bytes begin, from its i-th byte on, and how many bytes it has (0: none). -/
def numG (i : Nat) (n : Int) : List Int → Int × Nat
  | [] => (0, 0)
  | c :: t =>
    if 9 ≤ i then (0, 0)
    else if 0 < c % 128 ∧ (M - n) / 128 ^ i < c % 128 then (0, 0)
    else if 128 ≤ c then numG (i + 1) (n + c % 128 * 128 ^ i) t
    else if c % 128 = 0 ∧ 0 < i then (0, 0)
    else (n + c % 128 * 128 ^ i, i + 1)
def numL (l : List Int) : Int × Nat := numG 0 0 l

theorem pow_pos (i : Nat) : (0 : Int) < 128 ^ i := Int.pow_pos (by decide)
theorem le_div (k a s : Int) (hs : 0 < s) : k ≤ a / s ↔ k * s ≤ a := Int.le_ediv_iff_mul_le hs

theorem numG_enc : ∀ (m i : Nat) (n : Int) (rest : List Int), i + (enc m).length ≤ 9 → n + (m : Int) * 128 ^ i ≤ M → (0 < m ∨ i = 0) →
    numG i n (enc m ++ rest) = (n + (m : Int) * 128 ^ i, i + (enc m).length) := by
  intro m
  induction m using Nat.strongRecOn with
  | _ m ih =>
    intro i n rest hl hb hp
    have hpw := pow_pos i
    by_cases hm : m < 128
    · rw [enc_lt hm] at hl ⊢
      have e : (m : Int) % 128 = m := by omega
      have hd : ¬ ((M - n) / 128 ^ i < (m : Int)) := by
        rw [Int.not_lt, le_div _ _ _ hpw]; omega
      simp only [List.singleton_append, numG, e]
      rw [if_neg (by simp at hl; omega), if_neg (fun h => hd h.2), if_neg (by omega), if_neg (by omega)]
      simp
    · rw [enc_ge (by omega)] at hl ⊢
      have e : (((m % 128 + 128 : Nat) : Int)) % 128 = ((m % 128 : Nat) : Int) := by omega
      have hsplit : (m : Int) * 128 ^ i = ((m % 128 : Nat) : Int) * 128 ^ i + ((m / 128 : Nat) : Int) * 128 ^ (i + 1) := by
        have h1 : (m : Int) = ((m % 128 : Nat) : Int) + ((m / 128 : Nat) : Int) * 128 := by omega
        rw [Int.pow_succ]
        conv => lhs; rw [h1, Int.add_mul]
        rw [Int.mul_assoc, Int.mul_comm 128]
      have hnn : (0 : Int) ≤ ((m / 128 : Nat) : Int) * 128 ^ (i + 1) := Int.mul_nonneg (by omega) (Int.le_of_lt (pow_pos _))
      have hd : ¬ ((M - n) / 128 ^ i < ((m % 128 : Nat) : Int)) := by
        rw [Int.not_lt, le_div _ _ _ hpw]; omega
      simp only [List.cons_append, numG, e]
      simp only [List.length_cons] at hl ⊢
      rw [if_neg (by omega), if_neg (fun h => hd h.2), if_pos (by omega)]
      rw [ih (m / 128) (by omega) (i + 1) _ rest (by omega) (by omega) (by omega)]
      refine Prod.ext ?_ (by simp; omega)
      show _ + _ = _
      rw [hsplit]; omega

theorem numG_one : ∀ (l : List Int) (i : Nat) (n : Int), Byt.Ok l → 0 ≤ n → n ≤ M → (numG i n l).2 ≠ 0 →
    ∃ m : Nat, (numG i n l).1 = n + (m : Int) * 128 ^ i ∧ i < (numG i n l).2 ∧ l.take ((numG i n l).2 - i) = enc m ∧ (0 < m ∨ i = 0) ∧ (numG i n l).2 ≤ i + l.length ∧ (numG i n l).1 ≤ M ∧ (numG i n l).2 ≤ 9 := by
  intro l
  induction l with
  | nil => intro i n _ _ _ h; exact absurd rfl h
  | cons c t ih =>
    intro i n hok h0 hM h
    have hpw := pow_pos i
    have hc := hok c (by simp)
    have hot : Byt.Ok t := fun x hx => hok x (by simp [hx])
    simp only [numG] at h ⊢
    by_cases h9 : 9 ≤ i
    · rw [if_pos h9] at h; exact absurd rfl h
    rw [if_neg h9] at h ⊢
    by_cases hg : 0 < c % 128 ∧ (M - n) / 128 ^ i < c % 128
    · rw [if_pos hg] at h; exact absurd rfl h
    rw [if_neg hg] at h ⊢
    have hle : n + c % 128 * 128 ^ i ≤ M := by
      by_cases hk : 0 < c % 128
      · have := (le_div (c % 128) (M - n) (128 ^ i) hpw).1 (by omega)
        omega
      · have : c % 128 = 0 := by omega
        rw [this]; omega
    have hnn : 0 ≤ c % 128 * 128 ^ i := Int.mul_nonneg (by omega) (by omega)
    by_cases hge : 128 ≤ c
    · rw [if_pos hge] at h ⊢
      obtain ⟨m, h1, h2, h3, h4, h5, h6, h7⟩ := ih (i + 1) _ hot (by omega) hle h
      have hm : 0 < m := by omega
      refine ⟨m * 128 + (c % 128).toNat, ?_, by omega, ?_, .inl (by omega), by simp; omega, h6, h7⟩
      · rw [h1, Int.pow_succ]
        have e1 : ((m * 128 + (c % 128).toNat : Nat) : Int) = (m : Int) * 128 + c % 128 := by omega
        rw [e1, Int.add_mul, show (m : Int) * 128 * 128 ^ i = (m : Int) * (128 ^ i * 128) by rw [Int.mul_assoc, Int.mul_comm 128]]; omega
      · have e1 : (numG (i + 1) (n + c % 128 * 128 ^ i) t).2 - i = ((numG (i + 1) (n + c % 128 * 128 ^ i) t).2 - (i + 1)) + 1 := by omega
        rw [e1, List.take_succ_cons, h3, enc_ge (n := m * 128 + (c % 128).toNat) (by omega)]
        have e2 : (m * 128 + (c % 128).toNat) / 128 = m := by omega
        have e3 : (((m * 128 + (c % 128).toNat) % 128 + 128 : Nat) : Int) = c := by omega
        rw [e2, e3]
    · rw [if_neg hge] at h ⊢
      by_cases hz : c % 128 = 0 ∧ 0 < i
      · rw [if_pos hz] at h; exact absurd rfl h
      rw [if_neg hz]
      have e : c % 128 = c := by omega
      refine ⟨c.toNat, ?_, by simp, ?_, by omega, by simp, hle, by simp; omega⟩
      · rw [e, show ((c.toNat : Nat) : Int) = c by omega]
      · have e1 : i + 1 - i = 0 + 1 := by omega
        rw [e1, List.take_succ_cons, List.take_zero, enc_lt (by omega)]
        congr 1; omega

theorem numL_enc (m : Nat) (hm : (m : Int) ≤ M) (rest : List Int) : numL (enc m ++ rest) = ((m : Int), (enc m).length) := by
  unfold numL
  have := numG_enc m 0 0 rest (by have := enc_len9 (n := m) (by have : M = 4611686018427387904 := rfl; omega); omega) (by simpa using hm) (.inr rfl)
  simpa using this
theorem numL_one {l : List Int} (hok : Byt.Ok l) (h : (numL l).2 ≠ 0) : ∃ m : Nat, (numL l).1 = (m : Int) ∧ l.take (numL l).2 = enc m ∧ (m : Int) ≤ M ∧ (numL l).2 ≤ l.length ∧ (numL l).2 ≤ 9 := by
  obtain ⟨m, h1, h2, h3, h4, h5, h6, h7⟩ := numG_one l 0 0 hok (by omega) (by decide) h
  refine ⟨m, by show (numG 0 0 l).1 = _; simpa using h1, h3, ?_, by show (numG 0 0 l).2 ≤ _; simpa using h5, h7⟩
  have : (numG 0 0 l).1 = (m : Int) := by simpa using h1
  rw [← this]; exact h6
theorem numG_zero : ∀ (l : List Int) (i : Nat) (n : Int), (numG i n l).2 = 0 → (numG i n l).1 = 0 := by
  intro l
  induction l with
  | nil => intro i n _; rfl
  | cons c t ih =>
    intro i n h
    simp only [numG] at h ⊢
    repeat' split
    all_goals first | rfl | (rename_i h1 h2 h3; rw [if_neg h1, if_neg h2, if_pos h3] at h; exact ih _ _ h) | skip
    rename_i h1 h2 h3 h4
    rw [if_neg h1, if_neg h2, if_neg h3, if_neg h4] at h
    simp at h
theorem numL_zero {l : List Int} (h : (numL l).2 = 0) : (numL l).1 = 0 := numG_zero l 0 0 h
theorem numL_nonneg {l : List Int} (hok : Byt.Ok l) : 0 ≤ (numL l).1 ∧ (numL l).1 ≤ M := by
  by_cases h : (numL l).2 = 0
  · rw [numL_zero h]; exact ⟨by omega, by decide⟩
  · obtain ⟨m, h1, _, h2, _⟩ := numL_one hok h
    rw [h1]; exact ⟨by omega, h2⟩
theorem numL_le {l : List Int} (hok : Byt.Ok l) : (numL l).2 ≤ l.length := by
  by_cases h : (numL l).2 = 0
  · omega
  · obtain ⟨m, _, _, _, h2, _⟩ := numL_one hok h
    exact h2

/-- A number of any sign. -/
def zig (n : Int) : Int := if n < 0 then -2 * n - 1 else 2 * n
def zag (n : Int) : Int := if n % 2 = 1 then -((n + 1) / 2) else n / 2
theorem zag_zig (n : Int) : zag (zig n) = n := by unfold zag zig; split <;> split <;> omega
theorem zig_zag {n : Int} (h : 0 ≤ n) : zig (zag n) = n := by unfold zag zig; split <;> split <;> omega

def putL (l : List Int) (n : Int) : List Int := if n < 0 ∨ M < n then l else l ++ enc n.toNat
def putSL (l : List Int) (n : Int) : List Int := if n < -2305843009213693952 ∨ 2305843009213693952 < n then l else putL l (zig n)
def putTL (l s : List Int) : List Int := putL l (s.length : Int) ++ s
theorem putL_good {l : List Int} {n : Nat} (h : (n : Int) ≤ M) : putL l (n : Int) = l ++ enc n := by
  unfold putL; rw [if_neg (by omega), Int.toNat_natCast]
theorem putL_len (l : List Int) (n : Int) : (putL l n).length ≤ l.length + 9 := by
  unfold putL
  split
  · omega
  · rw [List.length_append]
    have := enc_len9 (n := n.toNat) (by have : M = 4611686018427387904 := rfl; omega)
    omega
theorem ok_putL {l : List Int} (h : Byt.Ok l) (n : Int) : Byt.Ok (putL l n) := by
  unfold putL; split
  · exact h
  · exact Byt.ok_append h (ok_enc _)
theorem ok_putSL {l : List Int} (h : Byt.Ok l) (n : Int) : Byt.Ok (putSL l n) := by
  unfold putSL; split
  · exact h
  · exact ok_putL h _
theorem putSL_len (l : List Int) (n : Int) : (putSL l n).length ≤ l.length + 9 := by
  unfold putSL; split
  · omega
  · exact putL_len _ _
theorem ok_putTL {l s : List Int} (h : Byt.Ok l) (hs : Byt.Ok s) : Byt.Ok (putTL l s) := Byt.ok_append (ok_putL h _) hs

theorem putSL_zag {m : Nat} (h : (m : Int) ≤ M) : putSL [] (zag m) = enc m := by
  have hM : M = 4611686018427387904 := rfl
  unfold putSL
  rw [if_neg (by unfold zag; split <;> omega), zig_zag (by omega), putL_good h, List.nil_append]
/-- A reader's steps: the value, how many bytes; bad: 0 bytes. -/
def sgnL (l : List Int) : Int × Nat := (zag (numL l).1, (numL l).2)
def textL (l : List Int) : List Int × Nat :=
  if (numL l).2 = 0 ∨ (l.length : Int) - (numL l).2 < (numL l).1 then ([], 0) else ((l.drop (numL l).2).take (numL l).1.toNat, (numL l).2 + (numL l).1.toNat)
theorem textL_le {l : List Int} (hok : Byt.Ok l) : (textL l).2 ≤ l.length := by
  unfold textL
  have h1 := numL_le hok
  have h2 := numL_nonneg hok
  split
  · exact Nat.zero_le _
  · simp only; omega
theorem textL_put (s rest : List Int) (hs : (s.length : Int) ≤ M) : textL (putTL [] s ++ rest) = (s, (enc s.length).length + s.length) := by
  unfold textL putTL
  rw [putL_good hs, List.nil_append, List.append_assoc, numL_enc s.length hs]
  have hp := enc_pos s.length
  simp only
  have e1 : ((enc s.length ++ (s ++ rest)).length : Int) = (enc s.length).length + (s.length + rest.length) := by simp
  rw [if_neg (by rw [e1]; omega)]
  simp
end Go.Proofs.Ytedfcjcnhgomoaa.Vy
end
-- MERGED YtedfcjcnhgomoaaVaryR
section
/- The walks of vary's readers. -/
namespace Go.Proofs.Ytedfcjcnhgomoaa.VaryR
open Go.RowKit Go.Proofs.Ytedfcjcnhgomoaa.P Go.Proofs.YtedfcjcnhgomoaaW.PrintWords Go.Proofs.YtedfcjcnhgomoaaW.PrintLast Go.Proofs.YtedfcjcnhgomoaaW.PrintMore Go.Proofs.Ytedfcjcnhgomoaa.Own Go.Proofs.Ytedfcjcnhgomoaa.Vy

/-- The cells of a reader. -/
def rdCells (v : Value) (at_ : Nat) (bad made : Bool) : Array Value := #[v, .int .i64 (at_ : Int), .bool bad, .bool made]
/-- A reader's block, as it stands: which bytes, where, and whether it is bad. -/
structure RdAt (g : Nat) (w : World) (v : Value) (l : List Int) (at_ : Nat) (bad : Bool) : Prop where
  heap : w.heap[g]? = some (.cells (rdCells v at_ bad true) 132 (0, 0))
  sl : Sl w v l
  le : at_ ≤ l.length
  len : l.length ≤ 140737488355000

theorem ret_int {k : IntKind} {a b : Int} (h : a = b) : Ending.returned (.int k a) = .returned (.int k b) := by rw [h]
theorem ahead_c (g : Nat) (w : World) (v : Value) (l : List Int) (at_ : Nat) (bad : Bool) (h : RdAt g w v l at_ bad) :
    Calls Try.prog 88 #[.pointer (some ⟨g, 0, none⟩)] w fun e w' => e = .returned (.int .i64 (((l.length - at_ : Nat)) : Int)) ∧ Drawn0 w w' := by
  have H := h.heap
  obtain ⟨A, c, hv, hc, hC⟩ := h.sl
  subst hv
  have hl := h.le
  have hlen := h.len
  have c0 : w.cell? ⟨g, 0, none⟩ = some (.slice A l.length c) := by rw [cell_of_row w g 0 _ _ _ H]; rfl
  have c1 : w.cell? ⟨g, 1, none⟩ = some (.int .i64 (at_ : Int)) := by rw [cell_of_row w g 1 _ _ _ H]; rfl
  clear H
  go_enter Try.func88, Try.ntmps88
  go_wp2_with fail
  go_quiet (fail)
  go_wp2_with fail
  go_ret
  exact ⟨ret_int (by omega), ⟨_, rfl⟩⟩
theorem fail_c (g : Nat) (w : World) (v : Value) (l : List Int) (at_ : Nat) (bad : Bool) (h : RdAt g w v l at_ bad) :
    Calls Try.prog 108 #[.pointer (some ⟨g, 0, none⟩)] w fun e w' => e = .returned (.int .i64 0) ∧ w' = w.setCell ⟨g, 2, none⟩ (.bool true) := by
  have H := h.heap
  have c2 : w.cell? ⟨g, 2, none⟩ = some (.bool bad) := by rw [cell_of_row w g 2 _ _ _ H]; rfl
  have f2 : w.frozen? ⟨g, 2, none⟩ = false := frozen_of_row w g 2 _ _ H
  clear H
  go_enter Try.func108, Try.ntmps108
  go_wp2_with fail
  go_ret
  exact ⟨rfl, rfl⟩
/-- The scale ahead of the k-th byte, as the machine has it. -/
def scal (k : Nat) : Int := if k ≤ 8 then 128 ^ k else -9223372036854775808
theorem scal_le {k : Nat} (h : k < 9) : scal k = 128 ^ k := if_pos (by omega)
theorem pow_le8 : ∀ {k : Nat}, k ≤ 8 → (128 : Int) ^ k ≤ 72057594037927936
  | 0, _ | 1, _ | 2, _ | 3, _ | 4, _ | 5, _ | 6, _ | 7, _ | 8, _ => by decide
theorem scal_next {k : Nat} (h : k < 9) : wrap64 (scal k * 128) = scal (k + 1) := by
  rw [scal_le h]
  by_cases h8 : k < 8
  · rw [scal_le (by omega), Int.pow_succ]
    have h1 := pow_le8 (k := k + 1) (by omega)
    rw [Int.pow_succ] at h1
    have h2 := Vy.pow_pos k
    exact Byt.wrap_in _ (by omega)
  · obtain rfl : k = 8 := by omega
    decide +kernel
theorem numG_bad {k : Nat} {n x : Int} {t : List Int} (h : k < 9) (h1 : 0 < x % 128) (h2 : (M - n) / 128 ^ k < x % 128) : numG k n (x :: t) = (0, 0) := by
  simp only [numG]; rw [if_neg (by omega), if_pos ⟨h1, h2⟩]
theorem numG_more {k : Nat} {n x : Int} {t : List Int} (h : k < 9) (h1 : ¬ (0 < x % 128 ∧ (M - n) / 128 ^ k < x % 128)) (h2 : 128 ≤ x) : numG k n (x :: t) = numG (k + 1) (n + x % 128 * 128 ^ k) t := by
  rw [numG, if_neg (by omega), if_neg h1, if_pos h2]
theorem numG_idle {k : Nat} {n x : Int} {t : List Int} (h : k < 9) (h2 : x < 128) (h3 : x % 128 = 0) (h4 : 0 < k) : numG k n (x :: t) = (0, 0) := by
  simp only [numG]; rw [if_neg (by omega), if_neg (by omega), if_neg (by omega), if_pos ⟨h3, h4⟩]
theorem numG_last {k : Nat} {n x : Int} {t : List Int} (h : k < 9) (h1 : ¬ (0 < x % 128 ∧ (M - n) / 128 ^ k < x % 128)) (h2 : x < 128) (h3 : ¬ (x % 128 = 0 ∧ 0 < k)) : numG k n (x :: t) = (n + x % 128 * 128 ^ k, k + 1) := by
  simp only [numG]; rw [if_neg (by omega), if_neg h1, if_neg (by omega), if_neg h3]
theorem numG_end {k : Nat} {n : Int} {t : List Int} (h : 9 ≤ k ∨ t = []) : numG k n t = (0, 0) := by
  cases t with
  | nil => rfl
  | cons x t => simp only [numG]; rw [if_pos (by simpa using h)]
/-- How the number's reading ends when there is none. -/
def NumEnd (g at_ : Nat) (l : List Int) (w : World) (e : Ending) (w' : World) : Prop :=
  e = .returned (.int .i64 (numL (l.drop at_)).1) ∧ (∃ n, w' = if (numL (l.drop at_)).2 = 0 then (w.drewN n).setCell ⟨g, 2, none⟩ (.bool true) else (w.drewN n).setCell ⟨g, 1, none⟩ (.int .i64 ((at_ + (numL (l.drop at_)).2 : Nat) : Int)))
theorem numEnd_none {g at_ : Nat} {l : List Int} {w : World} (d : Nat) (h : numL (l.drop at_) = (0, 0)) : NumEnd g at_ l w (.returned (.int .i64 0)) ((w.drewN d).setCell ⟨g, 2, none⟩ (.bool true)) := by
  unfold NumEnd; rw [h]; exact ⟨rfl, d, by rw [if_pos rfl]⟩
theorem numEnd_some {g at_ k : Nat} {n m : Int} {l : List Int} {w : World} (d : Nat) (h : numL (l.drop at_) = (n, k + 1)) (hm : m = (at_ : Int) + ((k : Int) + 1)) : NumEnd g at_ l w (.returned (.int .i64 n)) ((w.drewN d).setCell ⟨g, 1, none⟩ (.int .i64 m)) := by
  unfold NumEnd; rw [h]; refine ⟨rfl, d, ?_⟩
  rw [if_neg (by simp), hm]; congr 2
theorem RdAt.drewN {g : Nat} {w : World} {v : Value} {l : List Int} {at_ : Nat} {bad : Bool} (h : RdAt g w v l at_ bad) (n : Nat) : RdAt g (w.drewN n) v l at_ bad :=
  ⟨h.heap, h.sl.drewN n, h.le, h.len⟩
set_option maxHeartbeats 2000000 in
set_option maxRecDepth 100000 in
theorem num_c (g : Nat) (w : World) (v : Value) (l : List Int) (at_ : Nat) (h : RdAt g w v l at_ false) (hok : Byt.Ok l) :
    Calls Try.prog 87 #[.pointer (some ⟨g, 0, none⟩)] w (NumEnd g at_ l w) := by
  have HR := Aside0.mk h
  obtain ⟨N, hN⟩ : ∃ N, l.length - at_ = N := ⟨_, rfl⟩
  have ha := fun w => ahead_c g w v l at_ false
  rw [hN] at ha
  have HN := Aside0.mk hN
  have HOK := Aside0.mk hok
  have hb0 := h.le
  have hb1 := h.len
  clear h hN hok
  go_enter Try.func87, Try.ntmps87
  go_wp2_with fail
  refine (ha _ HR.out).mono ?_
  rintro e w1 ⟨rfl, nd, rfl⟩
  clear ha
  go_wp2_with fail
  all_goals
    go_loopw [2, 3, 10] (fun nv sv iv wr => ∃ (n : Int) (k : Nat) (d : Nat), nv = .int .i64 n ∧ sv = .int .i64 (scal k) ∧ iv = .int .i64 (k : Int) ∧ 0 ≤ n ∧ n ≤ 4611686018427387904 ∧ k ≤ 9 ∧ k ≤ N ∧ numG k n (l.drop (at_ + k)) = numL (l.drop at_) ∧ wr = w.drewN d) (fun _ _ iv _ => 9 - (intOf iv).toNat)
    case atStart => exact ⟨0, 0, nd, rfl, rfl, rfl, by omega, by omega, by omega, by omega, rfl, rfl⟩
    case round =>
      obtain ⟨n, k, d, rfl, rfl, rfl, h0, h1, hk9, hkN, hG, rfl⟩ := hrel
      by_cases hlt : k < 9 ∧ k < N
      · obtain ⟨hk, hkn⟩ := hlt
        have ha1 : (k : Int) < 9 := by omega
        have ha2 : (k : Int) < (N : Int) := by omega
        have hsl := HR.out.sl
        have hhp := HR.out.heap
        have hNl := HN.out
        have hlt : at_ + k < l.length := by omega
        obtain ⟨x, hx⟩ : ∃ x, l[at_ + k]? = some x := ⟨_, List.getElem?_eq_getElem hlt⟩
        have hxr := HOK.out x (List.mem_of_getElem? hx)
        obtain ⟨hx0, hx1⟩ := hxr
        obtain ⟨A, c, hv, hc, hC⟩ := hsl
        obtain ⟨ad, hA, _⟩ := hC.2.2 (by omega)
        subst hA
        have hcell : w.cell? (ad.add (at_ + k)) = some (.int .u8 x) := C_cells hC ad rfl (at_ + k) _ (by simp [nums, hx])
        rw [hv] at hhp
        have c0 : w.cell? ⟨g, 0, none⟩ = some (.slice (some ad) l.length c) := by rw [cell_of_row w g 0 _ _ _ hhp]; rfl
        have c1 : w.cell? ⟨g, 1, none⟩ = some (.int .i64 (at_ : Int)) := by rw [cell_of_row w g 1 _ _ _ hhp]; rfl
        have i1 : ((at_ : Int) + (k : Int)).toNat = at_ + k := by omega
        have i2 : (0 : Int) ≤ (at_ : Int) + (k : Int) := by omega
        have i3 : (at_ : Int) + (k : Int) < (l.length : Int) := by omega
        have i4 : IntKind.i64.wrap ((at_ : Int) + (k : Int)) = (at_ : Int) + (k : Int) := by rw [IntKind.wrap_i64]; omega
        have HG := Aside0.mk hG
        have HD := Aside0.mk (show l.drop (at_ + k) = x :: l.drop (at_ + k + 1) by rw [List.drop_eq_getElem_cons hlt]; rw [List.getElem?_eq_getElem hlt] at hx; rw [Option.some.inj hx])
        have f1 : w.frozen? ⟨g, 1, none⟩ = false := frozen_of_row w g 1 _ _ hhp
        clear hG hx hC hv hhp hNl hlt
        go_wp2_with fail
        go_quiet (fail)
        clear i1 i2 i3 i4 c0 hcell
        obtain ⟨s, hs⟩ : ∃ s, s = scal k := ⟨_, rfl⟩
        have hs0 : 0 < s := by rw [hs, scal_le hk]; exact Vy.pow_pos k
        have hs1 : s ≤ 72057594037927936 := by rw [hs, scal_le hk]; exact pow_le8 (by omega)
        have HS := Aside0.mk hs
        rw [← hs]
        have hsp : s = 128 ^ k := by rw [hs, scal_le hk]
        have HP := Aside0.mk hsp
        clear hs hsp
        by_cases hb : 0 < x % 128 ∧ (4611686018427387904 - n) / s < x % 128
        · obtain ⟨hb1, hb2⟩ := hb
          have HZ := Aside0.mk (HG.out.symm.trans ((congrArg (numG k n) HD.out).trans (numG_bad hk hb1 (by rw [← HP.out]; exact hb2))))
          go_wp2_with fail
          refine (fail_c g _ v l at_ false (HR.out.drewN _)).mono ?_
          rintro e w1 ⟨rfl, rfl⟩
          go_wp2_with fail
          go_ret
          exact numEnd_none _ HZ.out
        · have hP0 : 0 ≤ x % 128 * s := Int.mul_nonneg (by omega) (by omega)
          have hP2 : n + x % 128 * s ≤ 4611686018427387904 := by
            by_cases hk : 0 < x % 128
            · have := (le_div (x % 128) (4611686018427387904 - n) s hs0).1 (by omega)
              omega
            · have : x % 128 = 0 := by omega
              rw [this]; omega
          have hP1 : x % 128 * s ≤ 4611686018427387904 := by omega
          have HNB := Aside0.mk (show ¬ (0 < x % 128 ∧ (M - n) / 128 ^ k < x % 128) by rw [← HP.out]; exact hb)
          by_cases hge : 128 ≤ x
          · have HM := Aside0.mk ((numG_more (t := l.drop (at_ + k + 1)) hk HNB.out hge).symm.trans ((by rw [← HD.out]; exact HG.out : numG k n (x :: l.drop (at_ + k + 1)) = numL (l.drop at_))))
            have HW := Aside0.mk (scal_next hk)
            rw [← HS.out] at HW
            clear hb
            by_cases h1 : 0 < x % 128
            · have h2 : x % 128 ≤ (4611686018427387904 - n) / s := by
                have := HNB.out
                rw [← HP.out] at this
                have e : M = 4611686018427387904 := rfl
                rw [e] at this; omega
              go_wp2_with fail
              go_roundw
              case rel => exact ⟨_, k + 1, _, rfl, by rw [HW.out], by go_num, by omega, by omega, by omega, by omega, by rw [← HM.out, HP.out]; rfl, rfl⟩
              case measure => simp [intOf]; omega
            · have h2 : ¬ 0 < x % 128 := h1
              go_wp2_with fail
              go_roundw
              case rel => exact ⟨_, k + 1, _, rfl, by rw [HW.out], by go_num, by omega, by omega, by omega, by omega, by rw [← HM.out, HP.out]; rfl, rfl⟩
              case measure => simp [intOf]; omega
          · have hlt8 : x < 128 := by omega
            by_cases hz : x % 128 = 0 ∧ 0 < k
            · obtain ⟨hz1, hz2⟩ := hz
              have HZ := Aside0.mk (HG.out.symm.trans ((congrArg (numG k n) HD.out).trans (numG_idle hk hlt8 hz1 hz2)))
              have hz3 : (0 : Int) < (k : Int) := by omega
              obtain rfl : x = 0 := by omega
              clear hb hP0 hP1 hP2 hz1
              go_wp2_with fail
              refine (fail_c g _ v l at_ false (HR.out.drewN _)).mono ?_
              rintro e w1 ⟨rfl, rfl⟩
              go_wp2_with fail
              go_ret
              exact numEnd_none _ HZ.out
            · have HM := Aside0.mk (HG.out.symm.trans ((congrArg (numG k n) HD.out).trans (numG_last hk HNB.out hlt8 hz)))
              rw [← HP.out] at HM
              clear hb
              by_cases h1 : 0 < x % 128
              · have h2 : x % 128 ≤ (4611686018427387904 - n) / s := by
                  have := HNB.out
                  rw [← HP.out] at this
                  have e : M = 4611686018427387904 := rfl
                  rw [e] at this; omega
                have h3 : ¬ x % 128 = 0 := by omega
                clear hz
                go_wp2_with fail
                go_ret
                exact numEnd_some _ HM.out (by omega)
              · obtain rfl : x = 0 := by omega
                obtain rfl : k = 0 := by omega
                clear hz h1 hP0 hP1 hP2
                go_wp2_with fail
                go_ret
                exact numEnd_some _ (HM.out.trans (by rw [show (0 : Int) % 128 = 0 from rfl, Int.zero_mul, Int.add_zero])) (by omega)
      · have HZ := Aside0.mk (hG.symm.trans (numG_end (by
          by_cases h9 : 9 ≤ k
          · exact .inl h9
          · exact .inr (List.drop_of_length_le (by have := HN.out; omega)))))
        clear hG
        go_wp2_with fail
        all_goals first | (exfalso; omega) | skip
        refine (fail_c g _ v l at_ false (HR.out.drewN _)).mono ?_
        rintro e w1 ⟨rfl, rfl⟩
        go_wp2_with fail
        go_ret
        exact numEnd_none _ HZ.out

/-! What a reader's step leaves: all but its own block is as it was. -/
abbrev But (g : Nat) (w w' : World) : Prop := w.grownBy w' (some g)
theorem But.refl (g : Nat) (w : World) : But g w w := ⟨rfl, rfl, rfl, Nat.le_refl _, fun _ _ _ => rfl⟩
theorem But.trans {g : Nat} {w w1 w2 : World} (h : But g w w1) (h2 : But g w1 w2) : But g w w2 :=
  ⟨h2.os.trans h.os, h2.tape.trans h.tape, h2.output.trans h.output, Nat.le_trans h.size h2.size, fun k hk hn => (h2.block k (Nat.lt_of_lt_of_le hk h.size) hn).trans (h.block k hk hn)⟩
theorem But.drewN (g : Nat) (w : World) (n : Nat) : But g w (w.drewN n) := ⟨rfl, rfl, rfl, Nat.le_refl _, fun _ _ _ => rfl⟩
theorem But.setCell (g o : Nat) (w : World) (u : Value) : But g w (w.setCell ⟨g, o, none⟩ u) :=
  ⟨rfl, rfl, rfl, by simp, fun k _ hn => heap_setCell_other w ⟨g, o, none⟩ k u (fun e => hn (by rw [e]))⟩
theorem But.below {g B : Nat} {w w' : World} (h : But g w w') (hB : B ≤ g) (hs : B ≤ w.heap.size) : Below B w w' :=
  ⟨h.os, h.tape, h.output, h.size, fun k hk => h.block k (Nat.lt_of_lt_of_le hk hs) (fun e => by injection e; omega)⟩
theorem But.step {g B : Nat} {w0 w w' : World} (h : But g w w') (hb : Below B w0 w) (hB : B ≤ g) (hs : B ≤ w0.heap.size) : Below B w0 w' := hb.trans (h.below hB (Nat.le_trans hs hb.size))
theorem Sl.but {g : Nat} {w w' : World} {v : Value} {xs : List Int} (h : Sl w v xs) (hg : But g w w') (hno : ∀ o x, w.cell? ⟨g, o, none⟩ ≠ some (.int .u8 x)) : Sl w' v xs := by
  obtain ⟨A, c, rfl, hc, hC⟩ := h
  refine ⟨A, c, rfl, hc, hC.1, hC.2.1, fun hp => ?_⟩
  obtain ⟨ad, e, hr⟩ := hC.2.2 hp
  refine ⟨ad, e, fun j p hj => ?_⟩
  obtain ⟨c, h1, h2, h3⟩ := hr j p hj
  refine ⟨c, h1, h2, fun i u hu => ?_⟩
  have hcell := h3 i u hu
  have hlt := World.block_lt_of_cell? w _ hcell
  have hc' : c = [.int .u8 p] := h2
  subst hc'
  have hu' : u = .int .u8 p := by
    cases i with
    | zero => exact (Option.some.inj hu).symm
    | succ i => cases hu
  subst hu'
  refine (World.cell?_of_block (hg.block _ hlt (fun e => ?_))).trans hcell
  have hb : (ad.add (j * (Kd.int .u8).sz + i)).block = g := by injection e
  have hs : (ad.add (j * (Kd.int .u8).sz + i)).spot = none := by
    cases hq : (ad.add (j * (Kd.int .u8).sz + i)).spot with
    | none => rfl
    | some q =>
      unfold World.cell? at hcell
      rw [hq] at hcell
      split at hcell
      · simp at hcell
      · cases hcell
  refine hno (ad.add (j * (Kd.int .u8).sz + i)).off p ?_
  have he : (⟨g, (ad.add (j * (Kd.int .u8).sz + i)).off, none⟩ : Addr) = ad.add (j * (Kd.int .u8).sz + i) := by
    rw [← hb, ← hs]
  rw [he]; exact hcell
theorem RdAt.noByte {g : Nat} {w : World} {v : Value} {l : List Int} {a : Nat} {bad : Bool} (h : RdAt g w v l a bad) : ∀ o x, w.cell? ⟨g, o, none⟩ ≠ some (.int .u8 x) := by
  intro o x hc
  rw [cell_of_row w g o _ _ _ h.heap] at hc
  obtain ⟨A, c, hv, _, _⟩ := h.sl
  subst hv
  unfold rdCells at hc
  match o with
  | 0 | 1 | 2 | 3 => simp at hc
  | o + 4 => simp at hc
theorem RdAt.setAt {g : Nat} {w : World} {v : Value} {l : List Int} {a : Nat} {bad : Bool} (h : RdAt g w v l a bad) (a' : Nat) (ha : a' ≤ l.length) : RdAt g (w.setCell ⟨g, 1, none⟩ (.int .i64 (a' : Int))) v l a' bad :=
  ⟨by rw [heap_setCell_same _ _ _ _ _ _ h.heap]; rfl, Sl.but h.sl (But.setCell g 1 w _) h.noByte, ha, h.len⟩
theorem RdAt.setBad {g : Nat} {w : World} {v : Value} {l : List Int} {a : Nat} {bad : Bool} (h : RdAt g w v l a bad) (b : Bool) : RdAt g (w.setCell ⟨g, 2, none⟩ (.bool b)) v l a b :=
  ⟨by rw [heap_setCell_same _ _ _ _ _ _ h.heap]; rfl, Sl.but h.sl (But.setCell g 2 w _) h.noByte, h.le, h.len⟩
theorem RdAt.but {g g' : Nat} {w w' : World} {v : Value} {l : List Int} {a : Nat} {bad : Bool} (h : RdAt g w v l a bad) (hg : But g' w w') (hne : g ≠ g') (hno : ∀ o x, w.cell? ⟨g', o, none⟩ ≠ some (.int .u8 x)) : RdAt g w' v l a bad :=
  ⟨(hg.block g (Array.getElem?_eq_some_iff.1 h.heap).1 (fun e => hne (by injection e))).trans h.heap, Sl.but h.sl hg hno, h.le, h.len⟩
theorem RdAt.below {g : Nat} {w w' : World} {v : Value} {l : List Int} {a : Nat} {bad : Bool} (h : RdAt g w v l a bad) (hb : Below w.heap.size w w') : RdAt g w' v l a bad :=
  ⟨(hb.block g (Array.getElem?_eq_some_iff.1 h.heap).1).trans h.heap, h.sl.below hb, h.le, h.len⟩

/-- Cuts of what is read. -/
theorem slice_mid {P : Program} (t e : TypeId) {z : Option Value} {b : Nat} (ht : P.underlying t = some (.slice e)) (hi : (P.info? e).map (fun i => (i.zero, i.size, i.bytes)) = some (z, 1, b)) {w : World} {v : Value} {l : List Int} (h : Sl w v l) (lo hi' : Int) (h0 : 0 ≤ lo) (h1 : lo ≤ hi') (h2 : hi' ≤ l.length) :
    ∃ u, (∀ W : World, (Instr.slice t v (some (.int .i64 lo)) (some (.int .i64 hi')) none).run P W = .ok u W) ∧ Sl w u ((l.take hi'.toNat).drop lo.toNat) := by
  obtain ⟨A, c, rfl, hc, hC⟩ := h
  cases hq : P.info? e with
  | none => rw [hq] at hi; cases hi
  | some i =>
    rw [hq] at hi
    have hsz : i.size = 1 := by
      simp only [Option.map_some, Option.some.injEq, Prod.mk.injEq] at hi
      exact hi.2.1
    refine ⟨_, cut_mid t e .i64 .i64 ht hq 1 hsz A l.length c lo hi' h0 h1 h2 hc, ?_⟩
    have hm := Kd.C_mid (lo := lo.toNat) (hi := hi'.toNat) hC (by omega) (by omega) hc
    have hl : ((l.take hi'.toNat).drop lo.toNat).length = hi'.toNat - lo.toNat := by rw [List.length_drop, List.length_take]; omega
    rw [hl] at hm
    exact ⟨_, _, by rw [hl], by rw [hl]; omega, by rw [hl]; exact hm⟩

theorem slice_from {P : Program} (t e : TypeId) {z : Option Value} {b : Nat} (ht : P.underlying t = some (.slice e)) (hi : (P.info? e).map (fun i => (i.zero, i.size, i.bytes)) = some (z, 1, b)) {w : World} {v : Value} {l : List Int} (h : Sl w v l) (lo : Int) (h0 : 0 ≤ lo) (h1 : lo ≤ l.length) :
    ∃ u, (∀ W : World, (Instr.slice t v (some (.int .i64 lo)) none none).run P W = .ok u W) ∧ Sl w u (l.drop lo.toNat) := by
  obtain ⟨A, c, rfl, hc, hC⟩ := h
  cases hq : P.info? e with
  | none => rw [hq] at hi; cases hi
  | some i =>
    rw [hq] at hi
    have hsz : i.size = 1 := by
      simp only [Option.map_some, Option.some.injEq, Prod.mk.injEq] at hi
      exact hi.2.1
    refine ⟨_, cut_from t e .i64 ht hq 1 hsz A l.length c lo h0 h1, ?_⟩
    have hm := Kd.C_drop (m := lo.toNat) hC (by omega) hc
    have hl : (l.drop lo.toNat).length = l.length - lo.toNat := List.length_drop
    rw [hl] at hm
    exact ⟨_, _, by rw [hl], by rw [hl]; omega, by rw [hl]; exact hm⟩

/-- What a way of reading comes to. -/
def WayPost (g : Nat) (v : Value) (l : List Int) (a : Nat) (val : Value) (k : Nat) (w : World) (e : Ending) (w' : World) : Prop :=
  ∃ a', e = .returned val ∧ RdAt g w' v l a' (decide (k = 0)) ∧ (k ≠ 0 → a' = a + k) ∧ But g w w'
theorem num_way (g : Nat) (w : World) (v : Value) (l : List Int) (a : Nat) (h : RdAt g w v l a false) (hok : Byt.Ok l) :
    Calls Try.prog 87 #[.pointer (some ⟨g, 0, none⟩)] w (WayPost g v l a (.int .i64 (numL (l.drop a)).1) (numL (l.drop a)).2 w) := by
  refine (num_c g w v l a h hok).mono ?_
  rintro e w' ⟨rfl, n, rfl⟩
  have hle := numL_le (Byt.ok_drop hok a)
  rw [List.length_drop] at hle
  have hal := h.le
  by_cases hk : (numL (l.drop a)).2 = 0
  · rw [if_pos hk, hk]
    exact ⟨a, rfl, (h.drewN n).setBad true, fun h => absurd rfl h, (But.drewN g w n).trans (But.setCell g 2 _ _)⟩
  · rw [if_neg hk]
    refine ⟨a + (numL (l.drop a)).2, rfl, ?_, fun _ => rfl, (But.drewN g w n).trans (But.setCell g 1 _ _)⟩
    rw [decide_eq_false hk]
    exact (h.drewN n).setAt _ (by omega)
set_option maxHeartbeats 1000000 in
theorem numFn_c (g : Nat) (w : World) (v : Value) (l : List Int) (a : Nat) (h : RdAt g w v l a false) (hok : Byt.Ok l) :
    Calls Try.prog 86 #[.pointer (some ⟨g, 0, none⟩)] w (WayPost g v l a (.int .i64 (numL (l.drop a)).1) (numL (l.drop a)).2 w) := by
  have H := Aside0.mk h
  clear h
  go_enter Try.func86, Try.ntmps86
  go_wp2_with fail
  refine (num_way g _ v l a H.out hok).mono ?_
  rintro e w' ⟨a', rfl, h1, h2, h3⟩
  have H1 := Aside0.mk h1
  have H2 := Aside0.mk h2
  have H3 := Aside0.mk h3
  clear h1 h2 h3
  go_wp2_with fail
  go_ret
  exact ⟨a', rfl, H1.out, H2.out, H3.out⟩
set_option maxHeartbeats 1000000 in
theorem bad_c (g : Nat) (w : World) (v : Value) (l : List Int) (a : Nat) (bad : Bool) (h : RdAt g w v l a bad) :
    Calls Try.prog 48 #[.pointer (some ⟨g, 0, none⟩)] w fun e w' => e = .returned (.bool bad) ∧ w' = w := by
  have H := h.heap
  have c3 : w.cell? ⟨g, 3, none⟩ = some (.bool true) := by rw [cell_of_row w g 3 _ _ _ H]; rfl
  have c2 : w.cell? ⟨g, 2, none⟩ = some (.bool bad) := by rw [cell_of_row w g 2 _ _ _ H]; rfl
  clear H h
  go_enter Try.func48, Try.ntmps48
  go_wp2_with fail
  go_ret
  exact ⟨rfl, rfl⟩
set_option maxHeartbeats 1000000 in
theorem signed_c (g : Nat) (w : World) (v : Value) (l : List Int) (a : Nat) (h : RdAt g w v l a false) (hok : Byt.Ok l) :
    Calls Try.prog 112 #[.pointer (some ⟨g, 0, none⟩)] w (WayPost g v l a (.int .i64 (sgnL (l.drop a)).1) (sgnL (l.drop a)).2 w) := by
  have H := Aside0.mk h
  have hn := numL_nonneg (Byt.ok_drop hok a)
  clear h
  unfold sgnL
  obtain ⟨r, hr⟩ : ∃ r, r = (numL (l.drop a)).1 := ⟨_, rfl⟩
  rw [← hr] at hn ⊢
  have HR := Aside0.mk hr
  obtain ⟨hn0, hn1⟩ := hn
  have hn2 : r ≤ 4611686018427387904 := hn1
  clear hn1 hr
  by_cases hodd : r % 2 = 1
  · have HZ := Aside0.mk (show wrap64 (-(r + 1).tdiv 2) = zag r by
      have e : (r + 1).tdiv 2 = (r + 1) / 2 := Int.tdiv_eq_ediv_of_nonneg (by omega)
      rw [e, Byt.wrap_in _ (by omega)]; unfold zag; rw [if_pos hodd])
    go_enter Try.func112, Try.ntmps112
    go_wp2_with fail
    refine (num_way g _ v l a H.out hok).mono ?_
    rintro e w' ⟨a', rfl, h1, h2, h3⟩
    have H1 := Aside0.mk h1
    have H2 := Aside0.mk h2
    have H3 := Aside0.mk h3
    clear h1 h2 h3
    rw [← HR.out]
    go_wp2_with fail
    go_ret
    exact ⟨a', ret_int HZ.out, H1.out, H2.out, H3.out⟩
  · have HZ := Aside0.mk (show r / 2 = zag r by unfold zag; rw [if_neg hodd])
    go_enter Try.func112, Try.ntmps112
    go_wp2_with fail
    refine (num_way g _ v l a H.out hok).mono ?_
    rintro e w' ⟨a', rfl, h1, h2, h3⟩
    have H1 := Aside0.mk h1
    have H2 := Aside0.mk h2
    have H3 := Aside0.mk h3
    clear h1 h2 h3
    rw [← HR.out]
    go_wp2_with fail
    go_ret
    exact ⟨a', ret_int HZ.out, H1.out, H2.out, H3.out⟩
set_option maxHeartbeats 1000000 in
set_option maxRecDepth 100000 in
theorem text_c (g : Nat) (w : World) (v : Value) (l : List Int) (a : Nat) (h : RdAt g w v l a false) (hok : Byt.Ok l) :
    Calls Try.prog 90 #[.pointer (some ⟨g, 0, none⟩)] w (WayPost g v l a (.string (strOfNums (textL (l.drop a)).1)) (textL (l.drop a)).2 w) := by
  have H := Aside0.mk h
  obtain ⟨hn0, hn1⟩ := numL_nonneg (Byt.ok_drop hok a)
  have hle := numL_le (Byt.ok_drop hok a)
  rw [List.length_drop] at hle
  have hal := h.le
  have hll := h.len
  clear h
  obtain ⟨r, hr⟩ : ∃ r : Nat, (r : Int) = (numL (l.drop a)).1 := ⟨(numL (l.drop a)).1.toNat, by omega⟩
  obtain ⟨k, hk⟩ : ∃ k : Nat, k = (numL (l.drop a)).2 := ⟨_, rfl⟩
  have hn2 : (r : Int) ≤ 4611686018427387904 := by rw [hr]; exact hn1
  rw [← hk] at hle
  have HRR := Aside0.mk hr
  have HK := Aside0.mk hk
  have HT1 := Aside0.mk (show k = 0 ∨ (l.length : Int) - a - k < r → textL (l.drop a) = ([], 0) by
    intro hz
    unfold textL
    rw [← hr, ← hk, List.length_drop, if_pos (by rcases hz with h | h <;> omega)])
  have HT2 := Aside0.mk (show k ≠ 0 → (r : Int) ≤ (l.length : Int) - a - k → textL (l.drop a) = ((l.take (a + k + r)).drop (a + k), k + r) by
    intro hz hq
    unfold textL
    rw [← hr, ← hk, List.length_drop, if_neg (by omega), Int.toNat_natCast, List.drop_drop, List.drop_take, Nat.add_sub_cancel_left])
  clear hn0 hn1 hr hk
  go_enter Try.func90, Try.ntmps90
  go_wp2_with fail
  refine (num_way g _ v l a H.out hok).mono ?_
  rintro e w' ⟨a', rfl, h1, h2, h3⟩
  rw [← HRR.out]
  rw [← HK.out] at h1 h2
  have H1 := Aside0.mk h1
  have H3 := Aside0.mk h3
  have hh := h1.heap
  by_cases hz : k = 0
  · have c2 : w'.cell? ⟨g, 2, none⟩ = some (.bool true) := by rw [cell_of_row w' g 2 _ _ _ hh]; simp [rdCells, hz]
    have HT := Aside0.mk (HT1.out (.inl hz))
    clear h1 h2 h3 hh hz
    go_wp2_with fail
    refine (fail_c g _ v l a' _ H1.out).mono ?_
    rintro e w1 ⟨rfl, rfl⟩
    go_wp2_with fail
    go_ret
    unfold WayPost
    rw [HT.out]
    exact ⟨a', rfl, H1.out.setBad true, fun h => absurd rfl h, H3.out.trans (But.setCell g 2 _ _)⟩
  · obtain rfl := h2 hz
    rw [decide_eq_false hz] at H1
    have c2 : w'.cell? ⟨g, 2, none⟩ = some (.bool false) := by rw [cell_of_row w' g 2 _ _ _ hh]; simp [rdCells, hz]
    have c1 : w'.cell? ⟨g, 1, none⟩ = some (.int .i64 ((a + k : Nat) : Int)) := by rw [cell_of_row w' g 1 _ _ _ hh]; rfl
    have f1 : w'.frozen? ⟨g, 1, none⟩ = false := frozen_of_row w' g 1 _ _ hh
    have HZ := Aside0.mk hz
    obtain ⟨q, hq⟩ : ∃ q, q = l.length - (a + k) := ⟨_, rfl⟩
    clear h1 h3 hh hz
    by_cases hlt : q < r
    · have hlt' : decide ((q : Int) < (r : Int)) = true := by simp; omega
      have HT := Aside0.mk (HT1.out (.inr (by omega)))
      go_wp2_with fail
      refine (ahead_c g _ v l (a + k) false H1.out).mono ?_
      rintro e w1 ⟨rfl, nd, rfl⟩
      rw [← hq]
      go_wp2_with fail
      refine (fail_c g _ v l (a + k) _ (H1.out.drewN _)).mono ?_
      rintro e w1 ⟨rfl, rfl⟩
      go_wp2_with fail
      go_ret
      unfold WayPost
      rw [HT.out]
      exact ⟨a + k, rfl, (H1.out.drewN _).setBad true, fun h => absurd rfl h, H3.out.trans ((But.drewN g _ _).trans (But.setCell g 2 _ _))⟩
    · have hlt' : decide ((q : Int) < (r : Int)) = false := by simp; omega
      have HT := Aside0.mk (HT2.out HZ.out (by omega))
      have hsum : ((a + k : Nat) : Int) + (r : Int) ≤ 140737488355000 := by omega
      go_wp2_with fail
      refine (ahead_c g _ v l (a + k) false H1.out).mono ?_
      rintro e w1 ⟨rfl, nd, rfl⟩
      rw [← hq]
      go_wp2_with fail
      have h2 := (H1.out.drewN nd).setAt (a + k + r) (by omega)
      rw [show ((a + k + r : Nat) : Int) = (a : Int) + (k : Int) + (r : Int) by omega] at h2
      have HB2 := Aside0.mk (H3.out.trans ((But.drewN g _ nd).trans (But.setCell g 1 _ (.int .i64 ((a : Int) + (k : Int) + (r : Int))))))
      obtain ⟨W2, hW2⟩ : ∃ W2, W2 = (w'.drewN nd).setCell ⟨g, 1, none⟩ (.int .i64 ((a : Int) + (k : Int) + (r : Int))) := ⟨_, rfl⟩
      rw [← hW2] at h2 HB2 ⊢
      have H2 := Aside0.mk h2
      obtain ⟨u, hcut, hu⟩ := slice_mid (P := Try.prog) 25 5 Try.underlying25 info5 h2.sl ((a : Int) + (k : Int)) ((a : Int) + (k : Int) + (r : Int)) (by omega) (by omega) (by omega)
      rw [show ((a : Int) + (k : Int) + (r : Int)).toNat = a + k + r by omega, show ((a : Int) + (k : Int)).toNat = a + k by omega] at hu
      have hcv := fun n => (hu.drewN n).string (P := Try.prog) Try.underlying25 Try.underlying5 Try.underlying9
      have d0 : W2.cell? ⟨g, 0, none⟩ = some v := by rw [cell_of_row W2 g 0 _ _ _ h2.heap]; rfl
      have d1 : W2.cell? ⟨g, 1, none⟩ = some (.int .i64 ((a : Int) + (k : Int) + (r : Int))) := by rw [cell_of_row W2 g 1 _ _ _ h2.heap]; simp [rdCells]
      have i1 : IntKind.i64.wrap ((a : Int) + (k : Int) + (r : Int) - (r : Int)) = (a : Int) + (k : Int) := by rw [IntKind.wrap_i64]; omega
      have i2 : (a : Int) + (k : Int) + (r : Int) - (r : Int) = (a : Int) + (k : Int) := by omega
      clear hW2 h2 hu c1 c2 f1
      go_quiet (fail)
      go_wp2_with fail
      go_ret
      unfold WayPost
      rw [HT.out]
      refine ⟨a + k + r, rfl, ?_, fun _ => by omega, HB2.out.trans (But.drewN g _ _)⟩
      rw [decide_eq_false (by have := HZ.out; omega)]
      exact H2.out.drewN _

/-! The reader's methods. -/
/-- A reader as the caller knows it: bad for good, or at a place. -/
def Rd (g : Nat) (w : World) (v : Value) (l : List Int) (a : Nat) (bad : Bool) : Prop := ∃ a', RdAt g w v l a' bad ∧ (bad = false → a' = a)
theorem Rd.noByte {g : Nat} {w : World} {v : Value} {l : List Int} {a : Nat} {bad : Bool} (h : Rd g w v l a bad) : ∀ o x, w.cell? ⟨g, o, none⟩ ≠ some (.int .u8 x) := by
  obtain ⟨_, h, _⟩ := h
  exact h.noByte
theorem Rd.but {g g' : Nat} {w w' : World} {v : Value} {l : List Int} {a : Nat} {bad : Bool} (h : Rd g w v l a bad) (hg : But g' w w') (hne : g ≠ g') (hno : ∀ o x, w.cell? ⟨g', o, none⟩ ≠ some (.int .u8 x)) : Rd g w' v l a bad := by
  obtain ⟨a', h, h2⟩ := h
  exact ⟨a', h.but hg hne hno, h2⟩
theorem Rd.below {g : Nat} {w w' : World} {v : Value} {l : List Int} {a : Nat} {bad : Bool} (h : Rd g w v l a bad) (hb : Below w.heap.size w w') : Rd g w' v l a bad := by
  obtain ⟨a', h, h2⟩ := h
  exact ⟨a', h.below hb, h2⟩
/-- A step: what is told, where the reader stands then, whether it is bad. -/
def stepA (bad : Bool) (a k : Nat) : Nat := if bad then a else a + k
def stepB (bad : Bool) (k : Nat) : Bool := bad || decide (k = 0)
def stepV {α : Type} (z : α) (bad : Bool) (k : Nat) (x : α) : α := if stepB bad k then z else x
def RdPost (g : Nat) (v : Value) (l : List Int) (a : Nat) (bad : Bool) (val : Value) (k : Nat) (w : World) (e : Ending) (w' : World) : Prop :=
  e = .returned val ∧ Rd g w' v l (stepA bad a k) (stepB bad k) ∧ But g w w'
theorem RdPost.mk {g : Nat} {v : Value} {l : List Int} {a k a' : Nat} {val : Value} {w w' : World} (h : RdAt g w' v l a' (decide (k = 0))) (h2 : k ≠ 0 → a' = a + k) (h3 : But g w w') : RdPost g v l a false val k w (.returned val) w' :=
  ⟨rfl, ⟨a', by simpa [stepB] using h, fun hk => by simp [stepB] at hk; rw [h2 hk]; rfl⟩, h3⟩
set_option maxHeartbeats 1000000 in
theorem readInt_bad (F : Nat) (g : Nat) (w : World) (v : Value) (l : List Int) (a : Nat) (k : Nat) (h : Rd g w v l a true) :
    Calls Try.prog 85 #[.pointer (some ⟨g, 0, none⟩), .func (.func F) #[] #[]] w (RdPost g v l a true (.int .i64 0) k w) := by
  obtain ⟨a', h, _⟩ := h
  have H := Aside0.mk h
  clear h
  go_enter Try.func85, Try.ntmps85
  go_wp2_with fail
  refine (bad_c g _ v l a' true H.out).mono ?_
  rintro e w' ⟨rfl, rfl⟩
  go_wp2_with fail
  go_ret
  exact ⟨rfl, ⟨a', H.out, fun h => by cases h⟩, But.refl g _⟩
end Go.Proofs.Ytedfcjcnhgomoaa.VaryR
end
-- MERGED YtedfcjcnhgomoaaPvariorumref01Put
section
-- Written by wip/myprint.py of this session, over the kit's print.py: a Lean function for each Go function, and the proof that the code comes to it.
namespace Go.Proofs.Ytedfcjcnhgomoaa.P
open Go.RowKit Go.Proofs.YtedfcjcnhgomoaaW.PrintWords Go.Proofs.YtedfcjcnhgomoaaW.PrintLast Go.Proofs.YtedfcjcnhgomoaaW.PrintMore
attribute [local go_sem] max2_int min2_int max_two min_two max_three min_three max_four min_four   -- for this text's walks alone
set_option linter.unusedVariables false
set_option linter.unusedSimpArgs false

/-! ### variorumref01_Put: function 41 -/
mutual
def variorumref01_Put.j0 : Nat → Int → List Int → Bool → Option (List Int)
  | 0, _, _, _ => none
  | k + 1, x1, x5, x14 => if x14 = true then (some x5) else (variorumref01_Put.l0 k x1 x5)
def variorumref01_Put.l0 : Nat → Int → List Int → Option (List Int)
  | 0, _, _ => none
  | k + 1, x1, x5 => if x1 ≥ 128 then (if x5.length < 140737488355328 then (variorumref01_Put.l0 k (wrap64 (Int.tdiv x1 128)) (x5 ++ [(wrap64 ((Int.tmod x1 128) + 128)) % 256])) else (none)) else (if x5.length < 140737488355328 then (some (x5 ++ [(x1) % 256])) else (none))
end
def variorumref01_Put.f (k : Nat) (l0 : List Int) (a1 : Int) : Option (List Int) := (some (([] : List Int) : List Int)).bind fun y110 => (if y110.length + l0.length < 140737488355328 then ((some (y110 ++ l0 : List Int)).bind fun y113 => (if a1 < 0 then (variorumref01_Put.j0 k a1 y113 true) else (variorumref01_Put.j0 k a1 y113 (decide (a1 > 4611686018427387904))))) else (none))
theorem variorumref01_Put.mono_l : ∀ k, (∀ y0 y1 y2, LeO (variorumref01_Put.j0 k y0 y1 y2) (variorumref01_Put.j0 (k + 1) y0 y1 y2)) ∧ (∀ y0 y1, LeO (variorumref01_Put.l0 k y0 y1) (variorumref01_Put.l0 (k + 1) y0 y1))
  | 0 => ⟨fun _ _ _ r h => by simp [variorumref01_Put.j0] at h, fun _ _ r h => by simp [variorumref01_Put.l0] at h⟩
  | k + 1 => by
    obtain ⟨ih0, ih1⟩ := variorumref01_Put.mono_l k
    refine ⟨?_, ?_⟩
    · intro y0 y1 y2
      unfold variorumref01_Put.j0
      repeat' first
      | (with_reducible exact ih0 _ _ _)
      | (with_reducible exact ih1 _ _)
      | (with_reducible exact LeO.refl _)
      | (with_reducible exact LeO.none _)
      | (with_reducible refine LeO.ite ?_ ?_)
      | (with_reducible refine LeO.bind ?_ (fun _ => ?_))
      | exact ih0 _ _ _
      | exact ih1 _ _
      | exact LeO.none _
      | refine LeO.ite ?_ ?_
      | refine LeO.bind ?_ (fun _ => ?_)
    · intro y0 y1
      unfold variorumref01_Put.l0
      repeat' first
      | (with_reducible exact ih0 _ _ _)
      | (with_reducible exact ih1 _ _)
      | (with_reducible exact LeO.refl _)
      | (with_reducible exact LeO.none _)
      | (with_reducible refine LeO.ite ?_ ?_)
      | (with_reducible refine LeO.bind ?_ (fun _ => ?_))
      | exact ih0 _ _ _
      | exact ih1 _ _
      | exact LeO.none _
      | refine LeO.ite ?_ ?_
      | refine LeO.bind ?_ (fun _ => ?_)
theorem variorumref01_Put.mono : ∀ a0 a1 k, LeO (variorumref01_Put.f k a0 a1) (variorumref01_Put.f (k + 1) a0 a1) := by
  intro a0 a1 k
  obtain ⟨ih0, ih1⟩ := variorumref01_Put.mono_l k
  unfold variorumref01_Put.f
  repeat' first
      | (with_reducible exact ih0 _ _ _)
      | (with_reducible exact ih1 _ _)
      | (with_reducible exact LeO.refl _)
      | (with_reducible exact LeO.none _)
      | (with_reducible refine LeO.ite ?_ ?_)
      | (with_reducible refine LeO.bind ?_ (fun _ => ?_))
      | exact ih0 _ _ _
      | exact ih1 _ _
      | exact LeO.none _
      | refine LeO.ite ?_ ?_
      | refine LeO.bind ?_ (fun _ => ?_)
set_option maxHeartbeats 8000000 in
set_option maxRecDepth 100000 in
theorem variorumref01_Put.calls (k : Nat) (A0 : Option Addr) (c0 : Nat) (l0 : List Int) (a1 : Int) (r : List Int) (w : World) (hr0 : Kd.C (Kd.int .u8) w A0 l0.length l0) (hc0 : l0.length ≤ c0) (h : variorumref01_Put.f k l0 a1 = some r) :
    Calls Try.prog 41 #[.slice A0 l0.length c0, .int .i64 a1] w fun e w' => ∃ v0_ : Value, e = .returned (v0_) ∧ Kd.R (Kd.int .u8) 5 w' w.heap.size (fun _ => True) v0_ r ∧ Below w.heap.size w w' := by
  have HR0 := Aside0.mk hr0
  have HC0 := Aside0.mk hc0
  clear hr0 hc0
  have HB := Aside0.mk (Below.refl w.heap.size w)
  have H : ((some (([] : List Int) : List Int)).bind fun y110 => (if y110.length + l0.length < 140737488355328 then ((some (y110 ++ l0 : List Int)).bind fun y113 => (if a1 < 0 then (variorumref01_Put.j0 k a1 y113 true) else (variorumref01_Put.j0 k a1 y113 (decide (a1 > 4611686018427387904))))) else (none))) = some r := h
  clear h
  obtain ⟨y110, hy110⟩ : ∃ y_ : List Int, y_ = (([] : List Int)) := ⟨_, rfl⟩
  replace H : (if y110.length + l0.length < 140737488355328 then ((some (y110 ++ l0 : List Int)).bind fun y113 => (if a1 < 0 then (variorumref01_Put.j0 k a1 y113 true) else (variorumref01_Put.j0 k a1 y113 (decide (a1 > 4611686018427387904))))) else (none)) = some r := by first | (rw [hy110]; with_reducible exact H) | (have H2_ := (Option.bind_some _ _).symm.trans H; rw [hy110]; with_reducible exact H2_) | (have H2_ := (Option.bind_some _ _).symm.trans H; with_reducible exact H2_) | with_reducible exact H | (rw [hy110]; exact H) | exact H
  have Ny110 := Aside0.mk hy110
  clear hy110
  by_cases c3 : y110.length + l0.length < 140737488355328
  · rw [if_pos c3] at H
    have LMc3 := Aside0.mk c3
    clear c3
    obtain ⟨y113, hy113⟩ : ∃ y_ : List Int, y_ = (y110 ++ l0) := ⟨_, rfl⟩
    replace H : (if a1 < 0 then (variorumref01_Put.j0 k a1 y113 true) else (variorumref01_Put.j0 k a1 y113 (decide (a1 > 4611686018427387904)))) = some r := by first | (rw [hy113]; with_reducible exact H) | (have H2_ := (Option.bind_some _ _).symm.trans H; rw [hy113]; with_reducible exact H2_) | (have H2_ := (Option.bind_some _ _).symm.trans H; with_reducible exact H2_) | with_reducible exact H | (rw [hy113]; exact H) | exact H
    have Ny113 := Aside0.mk hy113
    clear hy113
    have HC4 := Aside0.mk H
    clear H
    go_enter Try.func41, Try.ntmps41
    go_upto_region 2 with (first | ((with_reducible refine gate_dst (N := 6) rfl ?_); refine Kd.R_lit (Kd.int .u8) _ 5 ?hg (N := 6) ?hd (xs := ([] : List Int)) (inner := []) (ok := fun _ => True) (okp := fun _ => True) ?hr ?hp (fun _ hk => hk) trivial (Below.refl _ _) (Nat.le_refl _) (by simp) ?_; (case hd => rfl); (case hg => rfl); (case hr => first | (go_simp; done) | (go_simp; rfl)); (case hp => exact (Reps.none _ _)); intro v111 w5 ho6 hb hg_ hnew_; clear hg_ hnew_; (first | rw [← Ny110.out] at ho6 | (simp only [Int.reduceToNat] at ho6; rw [← Ny110.out] at ho6)); have n0_ := Aside0.mk (Kd.R_lower ho6 (below_size (by repeat (first | (with_reducible first | exact HB.out | apply below_alloc | apply pw_below_drewN | apply below_drew1) | exact HB.out)))); have n1_ := Aside0.mk (below_step (by repeat (first | (with_reducible first | exact HB.out | apply below_alloc | apply pw_below_drewN | apply below_drew1) | exact HB.out)) hb); clear HB; have HO112 := n0_; have HB := n1_; clear n0_ n1_; clear hb ho6) | ((with_reducible refine gate_builtin (b := .append) (xs := #[.tmp 6, .tmp 7]) rfl ?_); at_builtin; refine Kd.R_append_rows (Kd.int .u8) (w0 := w) w.heap.size rfl (.tmp 6) (.tmp 7) 25 5 (.int .u8 0) 1 rfl Try.underlying25 info5 rfl (by decide) (by omega) v111 y110 l0 _ _ _ (fun _ => True) (fun _ => False) rfl rfl ?aO ?aR (fun _ _ h => h) (fun _ h => h.elim) ?aF ?aB ?aS ?aL ?_; (case aR => repeat (first | exact (Kd.C_below HR0.out HB.out) | (with_reducible refine Kd.C_alloc ?_ _) | (with_reducible refine Kd.C_drewN ?_ _) | (with_reducible refine Kd.C_drew ?_))); (case aB => exact (by repeat (first | (with_reducible first | exact HB.out | apply below_alloc | apply pw_below_drewN | apply below_drew1) | exact HB.out))); (case aF => exact (fun _ _ => trivial)); (case aO => exact (by (with_reducible repeat (first | apply Kd.R_alloc | apply Kd.R_drewN | apply Kd.R_drew)); exact HO112.out)); (case aS => exact (below_size (by repeat (first | (with_reducible first | exact HB.out | apply below_alloc | apply pw_below_drewN | apply below_drew1) | exact HB.out)))); (case aL => have := LMc3.out; omega); intro v114 w7 ho hb hg hat; rw [← Ny113.out] at ho; have n0_ := Aside0.mk (hb); have n1_ := Aside0.mk (ho); clear HB; clear HO112; have HB := n0_; have HO115 := n1_; clear n0_ n1_; clear ho hb hg hat))
    (try simp only [Act.put, List.setIfInBounds_toArray, List.set_cons_zero, List.set_cons_succ])
    go_cut [14] (fun v14 wc => ∃ (kq : Nat) (x14_3 : Bool), v14 = .bool x14_3 ∧ Aside0 (variorumref01_Put.j0 kq a1 y113 x14_3 = some r) ∧ Aside0 (kq ≤ k) ∧ Aside0 (Kd.R (Kd.int .u8) 5 wc w.heap.size (fun _ => True) v114 y113) ∧ Aside0 (Below w.heap.size w wc))
    case first =>
      have H := HC4.out
      clear HC4
      by_cases c8 : a1 < 0
      · rw [if_pos c8] at H
        have c8b0 : decide (a1 < 0) = true := decide_eq_true c8
        clear c8
        (first | rw [c8b0] | (simp only [i64_w, i32_w]; rw [c8b0]) | skip)
        have H' := Aside0.mk H
        clear H
        go_wp2
        go_meet
        case rel => exact ⟨_, (true), (by first | rfl | (simp; done) | (simp [*]; done)), H', ⟨by first | omega | exact Nat.le_refl _⟩, ⟨by (with_reducible repeat (first | apply Kd.R_alloc | apply Kd.R_drewN | apply Kd.R_drew)); exact HO115.out⟩, ⟨by repeat (first | (with_reducible first | exact HB.out | apply below_alloc | apply pw_below_drewN | apply below_drew1) | exact HB.out)⟩⟩
      · rw [if_neg c8] at H
        have c8b0 : decide (a1 < 0) = false := decide_eq_false c8
        clear c8
        (first | rw [c8b0] | (simp only [i64_w, i32_w]; rw [c8b0]) | skip)
        have H' := Aside0.mk H
        clear H
        go_wp2
        go_meet
        case rel => exact ⟨_, (decide (a1 > 4611686018427387904)), (by first | rfl | (simp; done) | (simp [*]; done)), H', ⟨by first | omega | exact Nat.le_refl _⟩, ⟨by (with_reducible repeat (first | apply Kd.R_alloc | apply Kd.R_drewN | apply Kd.R_drew)); exact HO115.out⟩, ⟨by repeat (first | (with_reducible first | exact HB.out | apply below_alloc | apply pw_below_drewN | apply below_drew1) | exact HB.out)⟩⟩
    case rest =>
      clear HC4
      try clear p2
      try clear c3
      try clear c4
      try clear c8
      try clear c8b0
      obtain ⟨kq, x14_3, rfl, HA, HJ3, HO_5, HB⟩ := hcut
      cases kq with
      | zero => exact absurd HA.out (by simp [variorumref01_Put.j0])
      | succ kj3 =>
        have H := HA.out
        clear HA
        simp only [variorumref01_Put.j0] at H
        by_cases c9 : x14_3 = true
        · subst c9
          have H1 : (some y113) = some r := by rw [if_pos rfl] at H; exact H
          clear H
          have H := H1
          clear H1
          obtain rfl := Option.some.inj H
          go_wp2
          go_ret
          exact ⟨_, by first | rfl | (simp [errW_none, errW_some] <;> rfl) | (simp [*, errW_none, errW_some] <;> rfl), by (with_reducible repeat (first | apply Kd.R_alloc | apply Kd.R_drewN | apply Kd.R_drew)); exact HO_5.out, by repeat (first | (with_reducible first | exact HB.out | apply below_alloc | apply pw_below_drewN | apply below_drew1) | exact HB.out)⟩
        · replace c9 := Bool.eq_false_iff.mpr c9
          subst c9
          have H1 : (variorumref01_Put.l0 kj3 a1 y113) = some r := by rw [if_neg (show ¬ (false = true) by decide)] at H; exact H
          clear H
          have H := H1
          clear H1
          have H' := Aside0.mk H
          clear H
          go_wp2
          go_loopg [1, 5] kj3 (fun kq v1 v5 w' => ∃ (x1_2 : Int) (x5_2 : List Int), v1 = .int .i64 x1_2 ∧ Aside0 (variorumref01_Put.l0 kq x1_2 x5_2 = some r) ∧ Aside0 (kq ≤ kj3) ∧ Aside0 (Kd.R (Kd.int .u8) 5 w' w.heap.size (fun _ => True) v5 x5_2) ∧ Aside0 (Below w.heap.size w w'))
          case atStart => exact ⟨(a1), (y113), (by first | rfl | (simp; done) | (simp [*]; done)), H', ⟨Nat.le_refl _⟩, ⟨by (with_reducible repeat (first | apply Kd.R_alloc | apply Kd.R_drewN | apply Kd.R_drew)); exact HO_5.out⟩, ⟨by repeat (first | (with_reducible first | exact HB.out | apply below_alloc | apply pw_below_drewN | apply below_drew1) | exact HB.out)⟩⟩
          case round =>
            clear H'
            try clear p2
            try clear c3
            try clear c4
            try clear c8
            try clear c8b0
            try clear c9
            try clear p2
            obtain ⟨x1_2, x5_2, rfl, HA, HK2, HO_5, HB⟩ := hrel
            cases gk with
            | zero => exact absurd HA.out (by simp [variorumref01_Put.l0])
            | succ k2 =>
              have H := HA.out
              clear HA
              simp only [variorumref01_Put.l0] at H
              by_cases c10 : x1_2 ≥ 128
              · rw [if_pos c10] at H
                have c10b0 : decide (128 ≤ x1_2) = true := decide_eq_true c10
                clear c10
                by_cases c11 : x5_2.length < 140737488355328
                · rw [if_pos c11] at H
                  have LMc11 := Aside0.mk c11
                  clear c11
                  obtain ⟨y116, hy116⟩ : ∃ y_ : List Int, y_ = (x5_2 ++ [(wrap64 ((Int.tmod x1_2 128) + 128)) % 256]) := ⟨_, rfl⟩
                  replace H : (variorumref01_Put.l0 k2 (wrap64 (Int.tdiv x1_2 128)) y116) = some r := by first | (rw [hy116]; with_reducible exact H) | (have H2_ := (Option.bind_some _ _).symm.trans H; rw [hy116]; with_reducible exact H2_) | (have H2_ := (Option.bind_some _ _).symm.trans H; with_reducible exact H2_) | with_reducible exact H | (rw [hy116]; exact H) | exact H
                  have Ny116 := Aside0.mk hy116
                  clear hy116
                  have H' := Aside0.mk H
                  clear H
                  go_wp2_with (first | ((with_reducible refine gate_builtin (b := .append) (xs := #[.tmp 18, .tmp 23]) rfl ?_); at_builtin; refine Kd.R_append (Kd.int .u8) (w0 := w) w.heap.size rfl (.tmp 18) (.tmp 23) 25 5 (.int .u8 0) 1 rfl Try.underlying25 info5 rfl (by decide) (by omega) u5 x5_2 ((wrap64 ((Int.tmod x1_2 128) + 128)) % 256) [.int .u8 ((wrap64 ((Int.tmod x1_2 128) + 128)) % 256)] (fun _ => True) (fun _ => False) rfl rfl ?aP (fun _ hk => hk.elim) ?aF ?aO ?aB ?aS ?aL ?_; (case aP => exact rfl); (case aB => exact (by repeat (first | (with_reducible first | exact HB.out | apply below_alloc | apply pw_below_drewN | apply below_drew1) | exact HB.out))); (case aF => exact (fun _ _ => trivial)); (case aO => exact (by (with_reducible repeat (first | apply Kd.R_alloc | apply Kd.R_drewN | apply Kd.R_drew)); exact HO_5.out)); (case aS => exact (below_size (by repeat (first | (with_reducible first | exact HB.out | apply below_alloc | apply pw_below_drewN | apply below_drew1) | exact HB.out)))); (case aL => have := LMc11.out; omega); intro v117 w12 ho hb hg hat; rw [← Ny116.out] at ho; have n0_ := Aside0.mk (hb); have n1_ := Aside0.mk (ho); clear HB; clear HO_5; have HB := n0_; have HO118 := n1_; clear n0_ n1_; clear ho hb hg hat))
                  go_roundg k2
                  case measure => have := HJ3.out; have := HK2.out; omega
                  case rel => exact ⟨(wrap64 (Int.tdiv x1_2 128)), (y116), (by first | rfl | (simp; done) | (simp [*]; done)), H', ⟨by have := HJ3.out; have := HK2.out; omega⟩, ⟨by (with_reducible repeat (first | apply Kd.R_alloc | apply Kd.R_drewN | apply Kd.R_drew)); exact HO118.out⟩, ⟨by repeat (first | (with_reducible first | exact HB.out | apply below_alloc | apply pw_below_drewN | apply below_drew1) | exact HB.out)⟩⟩
                · rw [if_neg c11] at H
                  exact absurd H (by simp)
              · rw [if_neg c10] at H
                have c10b0 : decide (128 ≤ x1_2) = false := decide_eq_false c10
                clear c10
                by_cases c13 : x5_2.length < 140737488355328
                · rw [if_pos c13] at H
                  have LMc13 := Aside0.mk c13
                  clear c13
                  obtain ⟨y119, hy119⟩ : ∃ y_ : List Int, y_ = (x5_2 ++ [(x1_2) % 256]) := ⟨_, rfl⟩
                  replace H : (some y119) = some r := by first | (rw [hy119]; with_reducible exact H) | (have H2_ := (Option.bind_some _ _).symm.trans H; rw [hy119]; with_reducible exact H2_) | (have H2_ := (Option.bind_some _ _).symm.trans H; with_reducible exact H2_) | with_reducible exact H | (rw [hy119]; exact H) | exact H
                  have Ny119 := Aside0.mk hy119
                  clear hy119
                  obtain rfl := Option.some.inj H
                  go_wp2_with (first | ((with_reducible refine gate_builtin (b := .append) (xs := #[.tmp 27, .tmp 30]) rfl ?_); at_builtin; refine Kd.R_append (Kd.int .u8) (w0 := w) w.heap.size rfl (.tmp 27) (.tmp 30) 25 5 (.int .u8 0) 1 rfl Try.underlying25 info5 rfl (by decide) (by omega) u5 x5_2 ((x1_2) % 256) [.int .u8 ((x1_2) % 256)] (fun _ => True) (fun _ => False) rfl rfl ?aP (fun _ hk => hk.elim) ?aF ?aO ?aB ?aS ?aL ?_; (case aP => exact rfl); (case aB => exact (by repeat (first | (with_reducible first | exact HB.out | apply below_alloc | apply pw_below_drewN | apply below_drew1) | exact HB.out))); (case aF => exact (fun _ _ => trivial)); (case aO => exact (by (with_reducible repeat (first | apply Kd.R_alloc | apply Kd.R_drewN | apply Kd.R_drew)); exact HO_5.out)); (case aS => exact (below_size (by repeat (first | (with_reducible first | exact HB.out | apply below_alloc | apply pw_below_drewN | apply below_drew1) | exact HB.out)))); (case aL => have := LMc13.out; omega); intro v120 w14 ho hb hg hat; rw [← Ny119.out] at ho; have n0_ := Aside0.mk (hb); have n1_ := Aside0.mk (ho); clear HB; clear HO_5; have HB := n0_; have HO121 := n1_; clear n0_ n1_; clear ho hb hg hat))
                  go_ret
                  exact ⟨_, by first | rfl | (simp [errW_none, errW_some] <;> rfl) | (simp [*, errW_none, errW_some] <;> rfl), by (with_reducible repeat (first | apply Kd.R_alloc | apply Kd.R_drewN | apply Kd.R_drew)); exact HO121.out, by repeat (first | (with_reducible first | exact HB.out | apply below_alloc | apply pw_below_drewN | apply below_drew1) | exact HB.out)⟩
                · rw [if_neg c13] at H
                  exact absurd H (by simp)
  · rw [if_neg c3] at H
    exact absurd H (by simp)

end Go.Proofs.Ytedfcjcnhgomoaa.P
end
-- MERGED YtedfcjcnhgomoaaPvariorumref01PutText
section
-- Written by wip/myprint.py of this session, over the kit's print.py: a Lean function for each Go function, and the proof that the code comes to it.
namespace Go.Proofs.Ytedfcjcnhgomoaa.P
open Go.RowKit Go.Proofs.YtedfcjcnhgomoaaW.PrintWords Go.Proofs.YtedfcjcnhgomoaaW.PrintLast Go.Proofs.YtedfcjcnhgomoaaW.PrintMore
attribute [local go_sem] max2_int min2_int max_two min_two max_three min_three max_four min_four   -- for this text's walks alone
set_option linter.unusedVariables false
set_option linter.unusedSimpArgs false

/-! ### variorumref01_PutText: function 65 -/
def variorumref01_PutText.f (k : Nat) (l0 : List Int) (a1 : ByteArray) : Option (List Int) := (variorumref01_Put.f k l0 (a1.size : Int)).bind fun t122 => (if t122.length + a1.size < 140737488355328 then (some (t122 ++ bytesOf a1)) else (none))
theorem variorumref01_PutText.mono : ∀ a0 a1 k, LeO (variorumref01_PutText.f k a0 a1) (variorumref01_PutText.f (k + 1) a0 a1) := by
  intro a0 a1 k
  unfold variorumref01_PutText.f
  repeat' first
      | (with_reducible exact variorumref01_Put.mono _ _ _)
      | (with_reducible exact LeO.refl _)
      | (with_reducible exact LeO.none _)
      | (with_reducible refine LeO.ite ?_ ?_)
      | (with_reducible refine LeO.bind ?_ (fun _ => ?_))
      | exact variorumref01_Put.mono _ _ _
      | exact LeO.none _
      | refine LeO.ite ?_ ?_
      | refine LeO.bind ?_ (fun _ => ?_)
set_option maxHeartbeats 8000000 in
set_option maxRecDepth 100000 in
theorem variorumref01_PutText.calls (k : Nat) (A0 : Option Addr) (c0 : Nat) (l0 : List Int) (a1 : ByteArray) (r : List Int) (w : World) (hr0 : Kd.C (Kd.int .u8) w A0 l0.length l0) (hc0 : l0.length ≤ c0) (h : variorumref01_PutText.f k l0 a1 = some r) :
    Calls Try.prog 65 #[.slice A0 l0.length c0, .string a1] w fun e w' => ∃ v0_ : Value, e = .returned (v0_) ∧ Kd.R (Kd.int .u8) 5 w' w.heap.size (fun _ => True) v0_ r ∧ Below w.heap.size w w' := by
  have HR0 := Aside0.mk hr0
  have HC0 := Aside0.mk hc0
  clear hr0 hc0
  have HB := Aside0.mk (Below.refl w.heap.size w)
  have H : ((variorumref01_Put.f k l0 (a1.size : Int)).bind fun t122 => (if t122.length + a1.size < 140737488355328 then (some (t122 ++ bytesOf a1)) else (none))) = some r := h
  clear h
  replace H := Option.bind_eq_some_iff.mp H
  obtain ⟨t122, A30, H⟩ := H
  replace H : (if t122.length + a1.size < 140737488355328 then (some (t122 ++ bytesOf a1)) else (none)) = some r := H
  have A3 := Aside0.mk A30
  clear A30
  by_cases c4 : t122.length + a1.size < 140737488355328
  · rw [if_pos c4] at H
    have LMc4 := Aside0.mk c4
    clear c4
    obtain ⟨y125, hy125⟩ : ∃ y_ : List Int, y_ = (t122 ++ bytesOf a1) := ⟨_, rfl⟩
    replace H : (some y125) = some r := by first | (rw [hy125]; with_reducible exact H) | (have H2_ := (Option.bind_some _ _).symm.trans H; rw [hy125]; with_reducible exact H2_) | (have H2_ := (Option.bind_some _ _).symm.trans H; with_reducible exact H2_) | with_reducible exact H | (rw [hy125]; exact H) | exact H
    have Ny125 := Aside0.mk hy125
    clear hy125
    obtain rfl := Option.some.inj H
    go_enter Try.func65, Try.ntmps65
    go_wp2_with (first | ((with_reducible refine gate_callee (f := 41) rfl ?_); refine goesL_ (some 8) rfl rfl Try.func41 (by kernel_rfl) rfl #[.slice A0 l0.length c0, .int .i64 (a1.size : Int)] rfl (by (try simp only [List.map_toArray, List.map_cons, List.map_nil]); first | done | rfl | (simp only [List.length_drop, List.length_take]; rfl)) ?_; (with_reducible refine (variorumref01_Put.calls k _ _ l0 (a1.size : Int) t122 _ ?side1 ?side2 A3.out).mono ?_); (case side1 => repeat (first | exact HR0.out | (with_reducible refine Kd.C_alloc ?_ _) | (with_reducible refine Kd.C_drewN ?_ _) | (with_reducible refine Kd.C_drew ?_))); (case side2 => exact HC0.out); rintro e w5 ⟨v123, rfl, ho0, hb⟩; refine ⟨_, rfl, ?_⟩; have n0_ := Aside0.mk (Kd.R_lower ho0 (below_size (by repeat (first | (with_reducible first | exact HB.out | apply below_alloc | apply pw_below_drewN | apply below_drew1) | exact HB.out)))); have n1_ := Aside0.mk (below_step (by repeat (first | (with_reducible first | exact HB.out | apply below_alloc | apply pw_below_drewN | apply below_drew1) | exact HB.out)) hb); clear HB; have HO124 := n0_; have HB := n1_; clear n0_ n1_; (try clear hb); (try clear hb2); (try clear hk); (try clear hi); (try clear ho0)) | (at_builtin; refine print_append_str (w0 := w) w.heap.size rfl (.tmp 8) _ 25 9 5 rfl Try.underlying25 Try.underlying9 info5 v123 t122 a1 rfl rfl ?aO ?aB ?aS ?aL ?_; (case aB => exact (by repeat (first | (with_reducible first | exact HB.out | apply below_alloc | apply pw_below_drewN | apply below_drew1) | exact HB.out))); (case aO => exact (Kd.own_of_R (by (with_reducible repeat (first | apply Kd.R_alloc | apply Kd.R_drewN | apply Kd.R_drew)); exact HO124.out))); (case aS => exact (below_size (by repeat (first | (with_reducible first | exact HB.out | apply below_alloc | apply pw_below_drewN | apply below_drew1) | exact HB.out)))); (case aL => have := LMc4.out; omega); intro v126 w6 ho0 hb hg; have ho := Kd.R_of_own (h1 := fun _ => rfl) (ok := fun _ => True) ho0 (fun _ _ => trivial); clear ho0; have hat := True.intro; rw [← Ny125.out] at ho; change Kd.R (Kd.int .u8) 5 w6 w.heap.size (fun _ => True) v126 y125 at ho; have n0_ := Aside0.mk (hb); have n1_ := Aside0.mk (ho); clear HB; clear HO124; have HB := n0_; have HO127 := n1_; clear n0_ n1_; clear ho hb hg hat))
    go_ret
    exact ⟨_, by first | rfl | (simp [errW_none, errW_some] <;> rfl) | (simp [*, errW_none, errW_some] <;> rfl), by (with_reducible repeat (first | apply Kd.R_alloc | apply Kd.R_drewN | apply Kd.R_drew)); exact HO127.out, by repeat (first | (with_reducible first | exact HB.out | apply below_alloc | apply pw_below_drewN | apply below_drew1) | exact HB.out)⟩
  · rw [if_neg c4] at H
    exact absurd H (by simp)

end Go.Proofs.Ytedfcjcnhgomoaa.P
end
-- MERGED YtedfcjcnhgomoaaPvariorumref01PutSigned
section
-- Written by wip/myprint.py of this session, over the kit's print.py: a Lean function for each Go function, and the proof that the code comes to it.
namespace Go.Proofs.Ytedfcjcnhgomoaa.P
open Go.RowKit Go.Proofs.YtedfcjcnhgomoaaW.PrintWords Go.Proofs.YtedfcjcnhgomoaaW.PrintLast Go.Proofs.YtedfcjcnhgomoaaW.PrintMore
attribute [local go_sem] max2_int min2_int max_two min_two max_three min_three max_four min_four   -- for this text's walks alone
set_option linter.unusedVariables false
set_option linter.unusedSimpArgs false

/-! ### variorumref01_PutSigned: function 64 -/
def variorumref01_PutSigned.j0 : Nat → List Int → Int → Bool → Option (List Int)
  | 0, _, _, _ => none
  | k + 1, x0, x1, x10 => if x10 = true then ((some (([] : List Int) : List Int)).bind fun y304 => (if y304.length + x0.length < 140737488355328 then (some (y304 ++ x0)) else (none))) else (if x1 < 0 then ((variorumref01_Put.f k x0 (wrap64 ((wrap64 (2 * (wrap64 (-x1)))) - 1))).bind fun t310 => (some t310)) else ((variorumref01_Put.f k x0 (wrap64 (2 * x1))).bind fun t313 => (some t313)))
def variorumref01_PutSigned.f (k : Nat) (l0 : List Int) (a1 : Int) : Option (List Int) := if a1 < (-2305843009213693952) then (variorumref01_PutSigned.j0 k l0 a1 true) else (variorumref01_PutSigned.j0 k l0 a1 (decide (a1 > 2305843009213693952)))
theorem variorumref01_PutSigned.mono_l : ∀ k, (∀ y0 y1 y2, LeO (variorumref01_PutSigned.j0 k y0 y1 y2) (variorumref01_PutSigned.j0 (k + 1) y0 y1 y2))
  | 0 => fun _ _ _ r h => by simp [variorumref01_PutSigned.j0] at h
  | k + 1 => by
    have ih0 := variorumref01_PutSigned.mono_l k
    · intro y0 y1 y2
      unfold variorumref01_PutSigned.j0
      repeat' first
      | (with_reducible exact ih0 _ _ _)
      | (with_reducible exact variorumref01_Put.mono _ _ _)
      | (with_reducible exact LeO.refl _)
      | (with_reducible exact LeO.none _)
      | (with_reducible refine LeO.ite ?_ ?_)
      | (with_reducible refine LeO.bind ?_ (fun _ => ?_))
      | exact ih0 _ _ _
      | exact variorumref01_Put.mono _ _ _
      | exact LeO.none _
      | refine LeO.ite ?_ ?_
      | refine LeO.bind ?_ (fun _ => ?_)
theorem variorumref01_PutSigned.mono : ∀ a0 a1 k, LeO (variorumref01_PutSigned.f k a0 a1) (variorumref01_PutSigned.f (k + 1) a0 a1) := by
  intro a0 a1 k
  have ih0 := variorumref01_PutSigned.mono_l k
  unfold variorumref01_PutSigned.f
  repeat' first
      | (with_reducible exact ih0 _ _ _)
      | (with_reducible exact variorumref01_Put.mono _ _ _)
      | (with_reducible exact LeO.refl _)
      | (with_reducible exact LeO.none _)
      | (with_reducible refine LeO.ite ?_ ?_)
      | (with_reducible refine LeO.bind ?_ (fun _ => ?_))
      | exact ih0 _ _ _
      | exact variorumref01_Put.mono _ _ _
      | exact LeO.none _
      | refine LeO.ite ?_ ?_
      | refine LeO.bind ?_ (fun _ => ?_)
set_option maxHeartbeats 8000000 in
set_option maxRecDepth 100000 in
theorem variorumref01_PutSigned.calls (k : Nat) (A0 : Option Addr) (c0 : Nat) (l0 : List Int) (a1 : Int) (r : List Int) (w : World) (hr0 : Kd.C (Kd.int .u8) w A0 l0.length l0) (hc0 : l0.length ≤ c0) (h : variorumref01_PutSigned.f k l0 a1 = some r) :
    Calls Try.prog 64 #[.slice A0 l0.length c0, .int .i64 a1] w fun e w' => ∃ v0_ : Value, e = .returned (v0_) ∧ Kd.R (Kd.int .u8) 5 w' w.heap.size (fun _ => True) v0_ r ∧ Below w.heap.size w w' := by
  have HR0 := Aside0.mk hr0
  have HC0 := Aside0.mk hc0
  clear hr0 hc0
  have HB := Aside0.mk (Below.refl w.heap.size w)
  have H : (if a1 < (-2305843009213693952) then (variorumref01_PutSigned.j0 k l0 a1 true) else (variorumref01_PutSigned.j0 k l0 a1 (decide (a1 > 2305843009213693952)))) = some r := h
  clear h
  have HC3 := Aside0.mk H
  clear H
  go_enter Try.func64, Try.ntmps64
  go_upto_region 1 with (fail)
  go_cut [10] (fun v10 wc => ∃ (kq : Nat) (x10_2 : Bool), v10 = .bool x10_2 ∧ Aside0 (variorumref01_PutSigned.j0 kq l0 a1 x10_2 = some r) ∧ Aside0 (kq ≤ k) ∧ Aside0 (Below w.heap.size w wc))
  case first =>
    have H := HC3.out
    clear HC3
    by_cases c4 : a1 < (-2305843009213693952)
    · rw [if_pos c4] at H
      have c4b0 : decide (a1 < (-2305843009213693952)) = true := decide_eq_true c4
      clear c4
      (first | rw [c4b0] | (simp only [i64_w, i32_w]; rw [c4b0]) | skip)
      have H' := Aside0.mk H
      clear H
      go_wp2
      go_meet
      case rel => exact ⟨_, (true), (by first | rfl | (simp; done) | (simp [*]; done)), H', ⟨by first | omega | exact Nat.le_refl _⟩, ⟨by repeat (first | (with_reducible first | exact HB.out | apply below_alloc | apply pw_below_drewN | apply below_drew1) | exact HB.out)⟩⟩
    · rw [if_neg c4] at H
      have c4b0 : decide (a1 < (-2305843009213693952)) = false := decide_eq_false c4
      clear c4
      (first | rw [c4b0] | (simp only [i64_w, i32_w]; rw [c4b0]) | skip)
      have H' := Aside0.mk H
      clear H
      go_wp2
      go_meet
      case rel => exact ⟨_, (decide (a1 > 2305843009213693952)), (by first | rfl | (simp; done) | (simp [*]; done)), H', ⟨by first | omega | exact Nat.le_refl _⟩, ⟨by repeat (first | (with_reducible first | exact HB.out | apply below_alloc | apply pw_below_drewN | apply below_drew1) | exact HB.out)⟩⟩
  case rest =>
    clear HC3
    try clear p2
    try clear c4
    try clear c4b0
    obtain ⟨kq, x10_2, rfl, HA, HJ2, HB⟩ := hcut
    cases kq with
    | zero => exact absurd HA.out (by simp [variorumref01_PutSigned.j0])
    | succ kj2 =>
      have H := HA.out
      clear HA
      simp only [variorumref01_PutSigned.j0] at H
      by_cases c5 : x10_2 = true
      · subst c5
        have H1 : ((some (([] : List Int) : List Int)).bind fun y304 => (if y304.length + l0.length < 140737488355328 then (some (y304 ++ l0)) else (none))) = some r := by rw [if_pos rfl] at H; exact H
        clear H
        have H := H1
        clear H1
        obtain ⟨y304, hy304⟩ : ∃ y_ : List Int, y_ = (([] : List Int)) := ⟨_, rfl⟩
        replace H : (if y304.length + l0.length < 140737488355328 then (some (y304 ++ l0)) else (none)) = some r := by first | (rw [hy304]; with_reducible exact H) | (have H2_ := (Option.bind_some _ _).symm.trans H; rw [hy304]; with_reducible exact H2_) | (have H2_ := (Option.bind_some _ _).symm.trans H; with_reducible exact H2_) | with_reducible exact H | (rw [hy304]; exact H) | exact H
        have Ny304 := Aside0.mk hy304
        clear hy304
        by_cases c6 : y304.length + l0.length < 140737488355328
        · rw [if_pos c6] at H
          have LMc6 := Aside0.mk c6
          clear c6
          obtain ⟨y307, hy307⟩ : ∃ y_ : List Int, y_ = (y304 ++ l0) := ⟨_, rfl⟩
          replace H : (some y307) = some r := by first | (rw [hy307]; with_reducible exact H) | (have H2_ := (Option.bind_some _ _).symm.trans H; rw [hy307]; with_reducible exact H2_) | (have H2_ := (Option.bind_some _ _).symm.trans H; with_reducible exact H2_) | with_reducible exact H | (rw [hy307]; exact H) | exact H
          have Ny307 := Aside0.mk hy307
          clear hy307
          obtain rfl := Option.some.inj H
          go_wp2_with (first | ((with_reducible refine gate_dst (N := 11) rfl ?_); refine Kd.R_lit (Kd.int .u8) _ 5 ?hg (N := 11) ?hd (xs := ([] : List Int)) (inner := []) (ok := fun _ => True) (okp := fun _ => True) ?hr ?hp (fun _ hk => hk) trivial (Below.refl _ _) (Nat.le_refl _) (by simp) ?_; (case hd => rfl); (case hg => rfl); (case hr => first | (go_simp; done) | (go_simp; rfl)); (case hp => exact (Reps.none _ _)); intro v305 w7 ho8 hb hg_ hnew_; clear hg_ hnew_; (first | rw [← Ny304.out] at ho8 | (simp only [Int.reduceToNat] at ho8; rw [← Ny304.out] at ho8)); have n0_ := Aside0.mk (Kd.R_lower ho8 (below_size (by repeat (first | (with_reducible first | exact HB.out | apply below_alloc | apply pw_below_drewN | apply below_drew1) | exact HB.out)))); have n1_ := Aside0.mk (below_step (by repeat (first | (with_reducible first | exact HB.out | apply below_alloc | apply pw_below_drewN | apply below_drew1) | exact HB.out)) hb); clear HB; have HO306 := n0_; have HB := n1_; clear n0_ n1_; clear hb ho8) | ((with_reducible refine gate_builtin (b := .append) (xs := #[.tmp 11, .tmp 12]) rfl ?_); at_builtin; refine Kd.R_append_rows (Kd.int .u8) (w0 := w) w.heap.size rfl (.tmp 11) (.tmp 12) 25 5 (.int .u8 0) 1 rfl Try.underlying25 info5 rfl (by decide) (by omega) v305 y304 l0 _ _ _ (fun _ => True) (fun _ => False) rfl rfl ?aO ?aR (fun _ _ h => h) (fun _ h => h.elim) ?aF ?aB ?aS ?aL ?_; (case aR => repeat (first | exact (Kd.C_below HR0.out HB.out) | (with_reducible refine Kd.C_alloc ?_ _) | (with_reducible refine Kd.C_drewN ?_ _) | (with_reducible refine Kd.C_drew ?_))); (case aB => exact (by repeat (first | (with_reducible first | exact HB.out | apply below_alloc | apply pw_below_drewN | apply below_drew1) | exact HB.out))); (case aF => exact (fun _ _ => trivial)); (case aO => exact (by (with_reducible repeat (first | apply Kd.R_alloc | apply Kd.R_drewN | apply Kd.R_drew)); exact HO306.out)); (case aS => exact (below_size (by repeat (first | (with_reducible first | exact HB.out | apply below_alloc | apply pw_below_drewN | apply below_drew1) | exact HB.out)))); (case aL => have := LMc6.out; omega); intro v308 w9 ho hb hg hat; rw [← Ny307.out] at ho; have n0_ := Aside0.mk (hb); have n1_ := Aside0.mk (ho); clear HB; clear HO306; have HB := n0_; have HO309 := n1_; clear n0_ n1_; clear ho hb hg hat))
          go_ret
          exact ⟨_, by first | rfl | (simp [errW_none, errW_some] <;> rfl) | (simp [*, errW_none, errW_some] <;> rfl), by (with_reducible repeat (first | apply Kd.R_alloc | apply Kd.R_drewN | apply Kd.R_drew)); exact HO309.out, by repeat (first | (with_reducible first | exact HB.out | apply below_alloc | apply pw_below_drewN | apply below_drew1) | exact HB.out)⟩
        · rw [if_neg c6] at H
          exact absurd H (by simp)
      · replace c5 := Bool.eq_false_iff.mpr c5
        subst c5
        have H1 : (if a1 < 0 then ((variorumref01_Put.f kj2 l0 (wrap64 ((wrap64 (2 * (wrap64 (-a1)))) - 1))).bind fun t310 => (some t310)) else ((variorumref01_Put.f kj2 l0 (wrap64 (2 * a1))).bind fun t313 => (some t313))) = some r := by rw [if_neg (show ¬ (false = true) by decide)] at H; exact H
        clear H
        have H := H1
        clear H1
        by_cases c10 : a1 < 0
        · rw [if_pos c10] at H
          have c10b0 : decide (a1 < 0) = true := decide_eq_true c10
          clear c10
          replace H := Option.bind_eq_some_iff.mp H
          obtain ⟨t310, A110, H⟩ := H
          replace H : (some t310) = some r := H
          have A11 := Aside0.mk A110
          clear A110
          obtain rfl := Option.some.inj H
          go_wp2_with (first | ((with_reducible refine gate_callee (f := 41) rfl ?_); refine goesL_ (some 21) rfl rfl Try.func41 (by kernel_rfl) rfl #[.slice A0 l0.length c0, .int .i64 (wrap64 ((wrap64 (2 * (wrap64 (-a1)))) - 1))] rfl (by (try simp only [List.map_toArray, List.map_cons, List.map_nil]); first | done | rfl | (simp only [List.length_drop, List.length_take]; rfl)) ?_; (with_reducible refine (variorumref01_Put.calls kj2 _ _ l0 (wrap64 ((wrap64 (2 * (wrap64 (-a1)))) - 1)) t310 _ ?side1 ?side2 A11.out).mono ?_); (case side1 => repeat (first | exact (Kd.C_below HR0.out HB.out) | (with_reducible refine Kd.C_alloc ?_ _) | (with_reducible refine Kd.C_drewN ?_ _) | (with_reducible refine Kd.C_drew ?_))); (case side2 => exact HC0.out); rintro e w12 ⟨v311, rfl, ho0, hb⟩; refine ⟨_, rfl, ?_⟩; have n0_ := Aside0.mk (Kd.R_lower ho0 (below_size (by repeat (first | (with_reducible first | exact HB.out | apply below_alloc | apply pw_below_drewN | apply below_drew1) | exact HB.out)))); have n1_ := Aside0.mk (below_step (by repeat (first | (with_reducible first | exact HB.out | apply below_alloc | apply pw_below_drewN | apply below_drew1) | exact HB.out)) hb); clear HB; have HO312 := n0_; have HB := n1_; clear n0_ n1_; (try clear hb); (try clear hb2); (try clear hk); (try clear hi); (try clear ho0)))
          go_ret
          exact ⟨_, by first | rfl | (simp [errW_none, errW_some] <;> rfl) | (simp [*, errW_none, errW_some] <;> rfl), by (with_reducible repeat (first | apply Kd.R_alloc | apply Kd.R_drewN | apply Kd.R_drew)); exact HO312.out, by repeat (first | (with_reducible first | exact HB.out | apply below_alloc | apply pw_below_drewN | apply below_drew1) | exact HB.out)⟩
        · rw [if_neg c10] at H
          have c10b0 : decide (a1 < 0) = false := decide_eq_false c10
          clear c10
          replace H := Option.bind_eq_some_iff.mp H
          obtain ⟨t313, A130, H⟩ := H
          replace H : (some t313) = some r := H
          have A13 := Aside0.mk A130
          clear A130
          obtain rfl := Option.some.inj H
          go_wp2_with (first | ((with_reducible refine gate_callee (f := 41) rfl ?_); refine goesL_ (some 25) rfl rfl Try.func41 (by kernel_rfl) rfl #[.slice A0 l0.length c0, .int .i64 (wrap64 (2 * a1))] rfl (by (try simp only [List.map_toArray, List.map_cons, List.map_nil]); first | done | rfl | (simp only [List.length_drop, List.length_take]; rfl)) ?_; (with_reducible refine (variorumref01_Put.calls kj2 _ _ l0 (wrap64 (2 * a1)) t313 _ ?side1 ?side2 A13.out).mono ?_); (case side1 => repeat (first | exact (Kd.C_below HR0.out HB.out) | (with_reducible refine Kd.C_alloc ?_ _) | (with_reducible refine Kd.C_drewN ?_ _) | (with_reducible refine Kd.C_drew ?_))); (case side2 => exact HC0.out); rintro e w14 ⟨v314, rfl, ho0, hb⟩; refine ⟨_, rfl, ?_⟩; have n0_ := Aside0.mk (Kd.R_lower ho0 (below_size (by repeat (first | (with_reducible first | exact HB.out | apply below_alloc | apply pw_below_drewN | apply below_drew1) | exact HB.out)))); have n1_ := Aside0.mk (below_step (by repeat (first | (with_reducible first | exact HB.out | apply below_alloc | apply pw_below_drewN | apply below_drew1) | exact HB.out)) hb); clear HB; have HO315 := n0_; have HB := n1_; clear n0_ n1_; (try clear hb); (try clear hb2); (try clear hk); (try clear hi); (try clear ho0)))
          go_ret
          exact ⟨_, by first | rfl | (simp [errW_none, errW_some] <;> rfl) | (simp [*, errW_none, errW_some] <;> rfl), by (with_reducible repeat (first | apply Kd.R_alloc | apply Kd.R_drewN | apply Kd.R_drew)); exact HO315.out, by repeat (first | (with_reducible first | exact HB.out | apply below_alloc | apply pw_below_drewN | apply below_drew1) | exact HB.out)⟩

end Go.Proofs.Ytedfcjcnhgomoaa.P
end
-- MERGED YtedfcjcnhgomoaaPvariorumref01Num
section
-- Written by wip/myprint.py of this session, over the kit's print.py: a Lean function for each Go function, and the proof that the code comes to it.
namespace Go.Proofs.Ytedfcjcnhgomoaa.P
open Go.RowKit Go.Proofs.YtedfcjcnhgomoaaW.PrintWords Go.Proofs.YtedfcjcnhgomoaaW.PrintLast Go.Proofs.YtedfcjcnhgomoaaW.PrintMore
attribute [local go_sem] max2_int min2_int max_two min_two max_three min_three max_four min_four   -- for this text's walks alone
set_option linter.unusedVariables false
set_option linter.unusedSimpArgs false

/-! ### variorumref01_Num: function 53 -/
mutual
def variorumref01_Num.l0 : Nat → List Int → Int → Int → Int → Option (Int × Int)
  | 0, _, _, _, _ => none
  | k + 1, x0, x4, x5, x6 => if x6 < (x0.length : Int) then (variorumref01_Num.j1 k x0 x4 x5 x6 (decide (x6 < 9))) else (variorumref01_Num.j1 k x0 x4 x5 x6 false)
def variorumref01_Num.j1 : Nat → List Int → Int → Int → Int → Bool → Option (Int × Int)
  | 0, _, _, _, _, _ => none
  | k + 1, x0, x4, x5, x6, x15 => if x15 = true then (if 0 ≤ x6 then (if x6 < (x0.length : Int) then (if (Int.tmod (wrap64 (rd x0 x6)) 128) > 0 then (if x5 = 0 then (none) else (variorumref01_Num.j2 k x0 x4 x5 x6 (Int.tmod (wrap64 (rd x0 x6)) 128) (decide ((Int.tmod (wrap64 (rd x0 x6)) 128) > (wrap64 (Int.tdiv (wrap64 (4611686018427387904 - x4)) x5)))))) else (variorumref01_Num.j2 k x0 x4 x5 x6 (Int.tmod (wrap64 (rd x0 x6)) 128) false)) else (none)) else (none)) else (some (0, 0))
def variorumref01_Num.j2 : Nat → List Int → Int → Int → Int → Int → Bool → Option (Int × Int)
  | 0, _, _, _, _, _, _ => none
  | k + 1, x0, x4, x5, x6, x7, x33 => if x33 = true then (some (0, 0)) else (if 0 ≤ x6 then (if x6 < (x0.length : Int) then (if (rd x0 x6) < 128 then (if x7 = 0 then (if x6 > 0 then (some (0, 0)) else (some (wrap64 (x4 + (wrap64 (x7 * x5))), wrap64 (x6 + 1)))) else (some (wrap64 (x4 + (wrap64 (x7 * x5))), wrap64 (x6 + 1)))) else (variorumref01_Num.l0 k x0 (wrap64 (x4 + (wrap64 (x7 * x5)))) (wrap64 (x5 * 128)) (wrap64 (x6 + 1)))) else (none)) else (none))
end
def variorumref01_Num.f (k : Nat) (l0 : List Int) : Option (Int × Int) := variorumref01_Num.l0 k l0 0 1 0
theorem variorumref01_Num.mono_l : ∀ k, (∀ y0 y1 y2 y3, LeO (variorumref01_Num.l0 k y0 y1 y2 y3) (variorumref01_Num.l0 (k + 1) y0 y1 y2 y3)) ∧ (∀ y0 y1 y2 y3 y4, LeO (variorumref01_Num.j1 k y0 y1 y2 y3 y4) (variorumref01_Num.j1 (k + 1) y0 y1 y2 y3 y4)) ∧ (∀ y0 y1 y2 y3 y4 y5, LeO (variorumref01_Num.j2 k y0 y1 y2 y3 y4 y5) (variorumref01_Num.j2 (k + 1) y0 y1 y2 y3 y4 y5))
  | 0 => ⟨fun _ _ _ _ r h => by simp [variorumref01_Num.l0] at h, fun _ _ _ _ _ r h => by simp [variorumref01_Num.j1] at h, fun _ _ _ _ _ _ r h => by simp [variorumref01_Num.j2] at h⟩
  | k + 1 => by
    obtain ⟨ih0, ih1, ih2⟩ := variorumref01_Num.mono_l k
    refine ⟨?_, ?_, ?_⟩
    · intro y0 y1 y2 y3
      unfold variorumref01_Num.l0
      repeat' first
      | (with_reducible exact ih0 _ _ _ _)
      | (with_reducible exact ih1 _ _ _ _ _)
      | (with_reducible exact ih2 _ _ _ _ _ _)
      | (with_reducible exact LeO.refl _)
      | (with_reducible exact LeO.none _)
      | (with_reducible refine LeO.ite ?_ ?_)
      | (with_reducible refine LeO.bind ?_ (fun _ => ?_))
      | exact ih0 _ _ _ _
      | exact ih1 _ _ _ _ _
      | exact ih2 _ _ _ _ _ _
      | exact LeO.none _
      | refine LeO.ite ?_ ?_
      | refine LeO.bind ?_ (fun _ => ?_)
    · intro y0 y1 y2 y3 y4
      unfold variorumref01_Num.j1
      repeat' first
      | (with_reducible exact ih0 _ _ _ _)
      | (with_reducible exact ih1 _ _ _ _ _)
      | (with_reducible exact ih2 _ _ _ _ _ _)
      | (with_reducible exact LeO.refl _)
      | (with_reducible exact LeO.none _)
      | (with_reducible refine LeO.ite ?_ ?_)
      | (with_reducible refine LeO.bind ?_ (fun _ => ?_))
      | exact ih0 _ _ _ _
      | exact ih1 _ _ _ _ _
      | exact ih2 _ _ _ _ _ _
      | exact LeO.none _
      | refine LeO.ite ?_ ?_
      | refine LeO.bind ?_ (fun _ => ?_)
    · intro y0 y1 y2 y3 y4 y5
      unfold variorumref01_Num.j2
      repeat' first
      | (with_reducible exact ih0 _ _ _ _)
      | (with_reducible exact ih1 _ _ _ _ _)
      | (with_reducible exact ih2 _ _ _ _ _ _)
      | (with_reducible exact LeO.refl _)
      | (with_reducible exact LeO.none _)
      | (with_reducible refine LeO.ite ?_ ?_)
      | (with_reducible refine LeO.bind ?_ (fun _ => ?_))
      | exact ih0 _ _ _ _
      | exact ih1 _ _ _ _ _
      | exact ih2 _ _ _ _ _ _
      | exact LeO.none _
      | refine LeO.ite ?_ ?_
      | refine LeO.bind ?_ (fun _ => ?_)
theorem variorumref01_Num.mono : ∀ a0 k, LeO (variorumref01_Num.f k a0) (variorumref01_Num.f (k + 1) a0) := by
  intro a0 k
  obtain ⟨ih0, ih1, ih2⟩ := variorumref01_Num.mono_l k
  unfold variorumref01_Num.f
  repeat' first
      | (with_reducible exact ih0 _ _ _ _)
      | (with_reducible exact ih1 _ _ _ _ _)
      | (with_reducible exact ih2 _ _ _ _ _ _)
      | (with_reducible exact LeO.refl _)
      | (with_reducible exact LeO.none _)
      | (with_reducible refine LeO.ite ?_ ?_)
      | (with_reducible refine LeO.bind ?_ (fun _ => ?_))
      | exact ih0 _ _ _ _
      | exact ih1 _ _ _ _ _
      | exact ih2 _ _ _ _ _ _
      | exact LeO.none _
      | refine LeO.ite ?_ ?_
      | refine LeO.bind ?_ (fun _ => ?_)
set_option maxHeartbeats 8000000 in
set_option maxRecDepth 100000 in
theorem variorumref01_Num.calls (k : Nat) (A0 : Option Addr) (c0 : Nat) (l0 : List Int) (r1 : Int) (r2 : Int) (w : World) (hr0 : Kd.C (Kd.int .u8) w A0 l0.length l0) (hc0 : l0.length ≤ c0) (h : variorumref01_Num.f k l0 = some (r1, r2)) :
    Calls Try.prog 53 #[.slice A0 l0.length c0] w fun e w' => e = .returned (.tuple #[.int .i64 r1, .int .i64 r2]) ∧ Drawn0 w w' := by
  have HR0 := Aside0.mk hr0
  have HC0 := Aside0.mk hc0
  clear hr0 hc0
  have H : (variorumref01_Num.l0 k l0 0 1 0) = some (r1, r2) := h
  clear h
  have H' := Aside0.mk H
  clear H
  go_enter Try.func53, Try.ntmps53
  go_wp2
  go_loopg [4, 5, 6] k (fun kq v4 v5 v6 w' => ∃ (x4_1 : Int) (x5_1 : Int) (x6_1 : Int), v4 = .int .i64 x4_1 ∧ v5 = .int .i64 x5_1 ∧ v6 = .int .i64 x6_1 ∧ Aside0 (variorumref01_Num.l0 kq l0 x4_1 x5_1 x6_1 = some (r1, r2)) ∧ Aside0 (kq ≤ k) ∧ Drawn0 w w')
  case atStart => exact ⟨(0), (1), (0), (by first | rfl | (simp; done) | (simp [*]; done)), (by first | rfl | (simp; done) | (simp [*]; done)), (by first | rfl | (simp; done) | (simp [*]; done)), H', ⟨Nat.le_refl _⟩, by repeat (first | exact Drawn0.refl _ | apply Drawn0.step)⟩
  case round =>
    clear H'
    obtain ⟨x4_1, x5_1, x6_1, rfl, rfl, rfl, HA, HK1, ⟨m1, rfl⟩⟩ := hrel
    cases gk with
    | zero => exact absurd HA.out (by simp [variorumref01_Num.l0])
    | succ k1 =>
      have H := HA.out
      clear HA
      simp only [variorumref01_Num.l0] at H
      have HC2 := Aside0.mk H
      clear H
      go_upto_region 4 with (fail)
      go_cut [15] (fun v15 wc => ∃ (kq : Nat) (x15_1 : Bool), v15 = .bool x15_1 ∧ Aside0 (variorumref01_Num.j1 kq l0 x4_1 x5_1 x6_1 x15_1 = some (r1, r2)) ∧ Aside0 (kq ≤ k1) ∧ Drawn0 w wc)
      case first =>
        have H := HC2.out
        clear HC2
        by_cases c3 : x6_1 < (l0.length : Int)
        · rw [if_pos c3] at H
          have c3b0 : decide (x6_1 < (l0.length : Int)) = true := decide_eq_true c3
          clear c3
          (first | rw [c3b0] | (simp only [i64_w, i32_w]; rw [c3b0]) | skip)
          have H' := Aside0.mk H
          clear H
          go_wp2
          go_meet
          case rel => exact ⟨_, (decide (x6_1 < 9)), (by first | rfl | (simp; done) | (simp [*]; done)), H', ⟨by have := HK1.out; first | omega | exact Nat.le_refl _⟩, by repeat (first | exact Drawn0.refl _ | apply Drawn0.step)⟩
        · rw [if_neg c3] at H
          have c3b0 : decide (x6_1 < (l0.length : Int)) = false := decide_eq_false c3
          clear c3
          (first | rw [c3b0] | (simp only [i64_w, i32_w]; rw [c3b0]) | skip)
          have H' := Aside0.mk H
          clear H
          go_wp2
          go_meet
          case rel => exact ⟨_, (false), (by first | rfl | (simp; done) | (simp [*]; done)), H', ⟨by have := HK1.out; first | omega | exact Nat.le_refl _⟩, by repeat (first | exact Drawn0.refl _ | apply Drawn0.step)⟩
      case rest =>
        clear HC2
        try clear p2
        try clear c3
        try clear c3b0
        obtain ⟨kq, x15_1, rfl, HA, HJ1, ⟨mc1, rfl⟩⟩ := hcut
        cases kq with
        | zero => exact absurd HA.out (by simp [variorumref01_Num.j1])
        | succ kj1 =>
          have H := HA.out
          clear HA
          simp only [variorumref01_Num.j1] at H
          by_cases c4 : x15_1 = true
          · subst c4
            have H1 : (if 0 ≤ x6_1 then (if x6_1 < (l0.length : Int) then (if (Int.tmod (wrap64 (rd l0 x6_1)) 128) > 0 then (if x5_1 = 0 then (none) else (variorumref01_Num.j2 kj1 l0 x4_1 x5_1 x6_1 (Int.tmod (wrap64 (rd l0 x6_1)) 128) (decide ((Int.tmod (wrap64 (rd l0 x6_1)) 128) > (wrap64 (Int.tdiv (wrap64 (4611686018427387904 - x4_1)) x5_1)))))) else (variorumref01_Num.j2 kj1 l0 x4_1 x5_1 x6_1 (Int.tmod (wrap64 (rd l0 x6_1)) 128) false)) else (none)) else (none)) = some (r1, r2) := by rw [if_pos rfl] at H; exact H
            clear H
            have H := H1
            clear H1
            by_cases c5 : 0 ≤ x6_1
            · rw [if_pos c5] at H
              have c5b0 : decide (0 ≤ x6_1) = true := decide_eq_true c5
              clear c5
              by_cases c6 : x6_1 < (l0.length : Int)
              · rw [if_pos c6] at H
                have c6b0 : decide (x6_1 < (l0.length : Int)) = true := decide_eq_true c6
                clear c6
                have HC7 := Aside0.mk H
                clear H
                have p178 : 0 ≤ (x6_1 : Int) := of_decide_eq_true (by first | (with_reducible assumption) | assumption)
                have q178 : x6_1 < (l0.length : Int) := of_decide_eq_true (by first | (with_reducible assumption) | assumption)
                obtain ⟨ad178, e178, hx178_0⟩ := Kd.at_int HR0.out x6_1 p178 q178
                cases e178
                replace p178 := eq_true p178
                replace q178 := eq_true q178
                go_upto_region 7 with (fail)
                go_cut [33] (fun v33 wc => ∃ (kq : Nat) (x33_6 : Bool), v33 = .bool x33_6 ∧ Aside0 (variorumref01_Num.j2 kq l0 x4_1 x5_1 x6_1 (Int.tmod (wrap64 (rd l0 x6_1)) 128) x33_6 = some (r1, r2)) ∧ Aside0 (kq ≤ kj1) ∧ Drawn0 w wc)
                case first =>
                  have H := HC7.out
                  clear HC7
                  by_cases c8 : (Int.tmod (wrap64 (rd l0 x6_1)) 128) > 0
                  · rw [if_pos c8] at H
                    have c8b0 : decide (0 < (Int.tmod (wrap64 (rd l0 x6_1)) 128)) = true := decide_eq_true c8
                    clear c8
                    (first | rw [c8b0] | (simp only [i64_w, i32_w]; rw [c8b0]) | skip)
                    by_cases c9 : x5_1 = 0
                    · rw [if_pos c9] at H
                      exact absurd H (by simp)
                    · rw [if_neg c9] at H
                      have c9b0 : (x5_1 == 0) = false := beq_eq_false_iff_ne.mpr c9
                      have c9b1 : (x5_1 != 0) = true := bne_iff_ne.mpr c9
                      have H' := Aside0.mk H
                      clear H
                      go_wp2
                      go_meet
                      case rel => exact ⟨_, (decide ((Int.tmod (wrap64 (rd l0 x6_1)) 128) > (wrap64 (Int.tdiv (wrap64 (4611686018427387904 - x4_1)) x5_1)))), (by first | rfl | (simp; done) | (simp [*]; done)), H', ⟨by have := HK1.out; have := HJ1.out; first | omega | exact Nat.le_refl _⟩, by repeat (first | exact Drawn0.refl _ | apply Drawn0.step)⟩
                  · rw [if_neg c8] at H
                    have c8b0 : decide (0 < (Int.tmod (wrap64 (rd l0 x6_1)) 128)) = false := decide_eq_false c8
                    clear c8
                    (first | rw [c8b0] | (simp only [i64_w, i32_w]; rw [c8b0]) | skip)
                    have H' := Aside0.mk H
                    clear H
                    go_wp2
                    go_meet
                    case rel => exact ⟨_, (false), (by first | rfl | (simp; done) | (simp [*]; done)), H', ⟨by have := HK1.out; have := HJ1.out; first | omega | exact Nat.le_refl _⟩, by repeat (first | exact Drawn0.refl _ | apply Drawn0.step)⟩
                case rest =>
                  clear HC7
                  try clear c1
                  try clear p1
                  try clear q1
                  try clear hx1
                  try clear p2
                  try clear c3
                  try clear c3b0
                  try clear c4
                  try clear c5
                  try clear c5b0
                  try clear c6
                  try clear c6b0
                  try clear p6
                  try clear c8
                  try clear c8b0
                  try clear c9
                  try clear c9b0
                  try clear c9b1
                  try clear hx178_0
                  try clear p178
                  try clear p2
                  try clear q178
                  obtain ⟨kq, x33_6, rfl, HA, HJ6, ⟨mc6, rfl⟩⟩ := hcut
                  cases kq with
                  | zero => exact absurd HA.out (by simp [variorumref01_Num.j2])
                  | succ kj6 =>
                    have H := HA.out
                    clear HA
                    simp only [variorumref01_Num.j2] at H
                    by_cases c10 : x33_6 = true
                    · subst c10
                      have H1 : (some (0, 0)) = some (r1, r2) := by rw [if_pos rfl] at H; exact H
                      clear H
                      have H := H1
                      clear H1
                      simp only [Option.some.injEq, Prod.mk.injEq] at H
                      obtain ⟨rfl, rfl⟩ := H
                      go_wp2
                      go_ret2
                      exact ⟨by first | rfl | (simp; done) | (simp [*]; done), by repeat (first | exact Drawn0.refl _ | apply Drawn0.step)⟩
                    · replace c10 := Bool.eq_false_iff.mpr c10
                      subst c10
                      have H1 : (if 0 ≤ x6_1 then (if x6_1 < (l0.length : Int) then (if (rd l0 x6_1) < 128 then (if (Int.tmod (wrap64 (rd l0 x6_1)) 128) = 0 then (if x6_1 > 0 then (some (0, 0)) else (some (wrap64 (x4_1 + (wrap64 ((Int.tmod (wrap64 (rd l0 x6_1)) 128) * x5_1))), wrap64 (x6_1 + 1)))) else (some (wrap64 (x4_1 + (wrap64 ((Int.tmod (wrap64 (rd l0 x6_1)) 128) * x5_1))), wrap64 (x6_1 + 1)))) else (variorumref01_Num.l0 kj6 l0 (wrap64 (x4_1 + (wrap64 ((Int.tmod (wrap64 (rd l0 x6_1)) 128) * x5_1)))) (wrap64 (x5_1 * 128)) (wrap64 (x6_1 + 1)))) else (none)) else (none)) = some (r1, r2) := by rw [if_neg (show ¬ (false = true) by decide)] at H; exact H
                      clear H
                      have H := H1
                      clear H1
                      by_cases c11 : 0 ≤ x6_1
                      · rw [if_pos c11] at H
                        have c11b0 : decide (0 ≤ x6_1) = true := decide_eq_true c11
                        clear c11
                        by_cases c12 : x6_1 < (l0.length : Int)
                        · rw [if_pos c12] at H
                          have c12b0 : decide (x6_1 < (l0.length : Int)) = true := decide_eq_true c12
                          clear c12
                          by_cases c13 : (rd l0 x6_1) < 128
                          · rw [if_pos c13] at H
                            have c13b0 : decide ((rd l0 x6_1) < 128) = true := decide_eq_true c13
                            clear c13
                            by_cases c14 : (Int.tmod (wrap64 (rd l0 x6_1)) 128) = 0
                            · rw [if_pos c14] at H
                              have c14b0 : ((Int.tmod (wrap64 (rd l0 x6_1)) 128) == 0) = true := beq_iff_eq.mpr c14
                              have c14b1 : ((Int.tmod (wrap64 (rd l0 x6_1)) 128) != 0) = false := bne_eq_false_iff_eq.mpr c14
                              clear c14
                              by_cases c15 : x6_1 > 0
                              · rw [if_pos c15] at H
                                have c15b0 : decide (0 < x6_1) = true := decide_eq_true c15
                                clear c15
                                simp only [Option.some.injEq, Prod.mk.injEq] at H
                                obtain ⟨rfl, rfl⟩ := H
                                have p179 : 0 ≤ (x6_1 : Int) := of_decide_eq_true (by first | (with_reducible assumption) | assumption)
                                have q179 : x6_1 < (l0.length : Int) := of_decide_eq_true (by first | (with_reducible assumption) | assumption)
                                obtain ⟨ad179, e179, hx179_0⟩ := Kd.at_int HR0.out x6_1 p179 q179
                                obtain rfl : ad178 = ad179 := (by injection e179)
                                replace p179 := eq_true p179
                                replace q179 := eq_true q179
                                go_wp2
                                go_ret2
                                exact ⟨by first | rfl | (simp; done) | (simp [*]; done), by repeat (first | exact Drawn0.refl _ | apply Drawn0.step)⟩
                              · rw [if_neg c15] at H
                                have c15b0 : decide (0 < x6_1) = false := decide_eq_false c15
                                clear c15
                                simp only [Option.some.injEq, Prod.mk.injEq] at H
                                obtain ⟨rfl, rfl⟩ := H
                                have p179 : 0 ≤ (x6_1 : Int) := of_decide_eq_true (by first | (with_reducible assumption) | assumption)
                                have q179 : x6_1 < (l0.length : Int) := of_decide_eq_true (by first | (with_reducible assumption) | assumption)
                                obtain ⟨ad179, e179, hx179_0⟩ := Kd.at_int HR0.out x6_1 p179 q179
                                obtain rfl : ad178 = ad179 := (by injection e179)
                                replace p179 := eq_true p179
                                replace q179 := eq_true q179
                                go_wp2
                                go_ret2
                                exact ⟨by first | rfl | (simp; done) | (simp [*]; done), by repeat (first | exact Drawn0.refl _ | apply Drawn0.step)⟩
                            · rw [if_neg c14] at H
                              have c14b0 : ((Int.tmod (wrap64 (rd l0 x6_1)) 128) == 0) = false := beq_eq_false_iff_ne.mpr c14
                              have c14b1 : ((Int.tmod (wrap64 (rd l0 x6_1)) 128) != 0) = true := bne_iff_ne.mpr c14
                              simp only [Option.some.injEq, Prod.mk.injEq] at H
                              obtain ⟨rfl, rfl⟩ := H
                              have p179 : 0 ≤ (x6_1 : Int) := of_decide_eq_true (by first | (with_reducible assumption) | assumption)
                              have q179 : x6_1 < (l0.length : Int) := of_decide_eq_true (by first | (with_reducible assumption) | assumption)
                              obtain ⟨ad179, e179, hx179_0⟩ := Kd.at_int HR0.out x6_1 p179 q179
                              obtain rfl : ad178 = ad179 := (by injection e179)
                              replace p179 := eq_true p179
                              replace q179 := eq_true q179
                              go_wp2
                              go_ret2
                              exact ⟨by first | rfl | (simp; done) | (simp [*]; done), by repeat (first | exact Drawn0.refl _ | apply Drawn0.step)⟩
                          · rw [if_neg c13] at H
                            have c13b0 : decide ((rd l0 x6_1) < 128) = false := decide_eq_false c13
                            clear c13
                            have H' := Aside0.mk H
                            clear H
                            have p179 : 0 ≤ (x6_1 : Int) := of_decide_eq_true (by first | (with_reducible assumption) | assumption)
                            have q179 : x6_1 < (l0.length : Int) := of_decide_eq_true (by first | (with_reducible assumption) | assumption)
                            obtain ⟨ad179, e179, hx179_0⟩ := Kd.at_int HR0.out x6_1 p179 q179
                            obtain rfl : ad178 = ad179 := (by injection e179)
                            replace p179 := eq_true p179
                            replace q179 := eq_true q179
                            go_wp2
                            go_roundg kj6
                            case measure => have := HK1.out; have := HJ1.out; have := HJ6.out; omega
                            case rel => exact ⟨(wrap64 (x4_1 + (wrap64 ((Int.tmod (wrap64 (rd l0 x6_1)) 128) * x5_1)))), (wrap64 (x5_1 * 128)), (wrap64 (x6_1 + 1)), (by first | rfl | (simp; done) | (simp [*]; done)), (by first | rfl | (simp; done) | (simp [*]; done)), (by first | rfl | (simp; done) | (simp [*]; done)), H', ⟨by have := HK1.out; have := HJ1.out; have := HJ6.out; omega⟩, by repeat (first | exact Drawn0.refl _ | apply Drawn0.step)⟩
                        · rw [if_neg c12] at H
                          exact absurd H (by simp)
                      · rw [if_neg c11] at H
                        exact absurd H (by simp)
              · rw [if_neg c6] at H
                exact absurd H (by simp)
            · rw [if_neg c5] at H
              exact absurd H (by simp)
          · replace c4 := Bool.eq_false_iff.mpr c4
            subst c4
            have H1 : (some (0, 0)) = some (r1, r2) := by rw [if_neg (show ¬ (false = true) by decide)] at H; exact H
            clear H
            have H := H1
            clear H1
            simp only [Option.some.injEq, Prod.mk.injEq] at H
            obtain ⟨rfl, rfl⟩ := H
            go_wp2
            go_ret2
            exact ⟨by first | rfl | (simp; done) | (simp [*]; done), by repeat (first | exact Drawn0.refl _ | apply Drawn0.step)⟩

end Go.Proofs.Ytedfcjcnhgomoaa.P
end
-- MERGED YtedfcjcnhgomoaaPvariorumref01Signed
section
-- Written by wip/myprint.py of this session, over the kit's print.py: a Lean function for each Go function, and the proof that the code comes to it.
namespace Go.Proofs.Ytedfcjcnhgomoaa.P
open Go.RowKit Go.Proofs.YtedfcjcnhgomoaaW.PrintWords Go.Proofs.YtedfcjcnhgomoaaW.PrintLast Go.Proofs.YtedfcjcnhgomoaaW.PrintMore
attribute [local go_sem] max2_int min2_int max_two min_two max_three min_three max_four min_four   -- for this text's walks alone
set_option linter.unusedVariables false
set_option linter.unusedSimpArgs false

/-! ### variorumref01_Signed: function 113 -/
def variorumref01_Signed.f (k : Nat) (l0 : List Int) : Option (Int × Int) := (variorumref01_Num.f k l0).bind fun bt391 => (if (Int.tmod bt391.1 2) = 1 then (some (wrap64 (-(wrap64 (Int.tdiv (wrap64 (bt391.1 + 1)) 2))), bt391.2)) else (some (wrap64 (Int.tdiv bt391.1 2), bt391.2)))
theorem variorumref01_Signed.mono : ∀ a0 k, LeO (variorumref01_Signed.f k a0) (variorumref01_Signed.f (k + 1) a0) := by
  intro a0 k
  unfold variorumref01_Signed.f
  repeat' first
      | (with_reducible exact variorumref01_Num.mono _ _)
      | (with_reducible exact LeO.refl _)
      | (with_reducible exact LeO.none _)
      | (with_reducible refine LeO.ite ?_ ?_)
      | (with_reducible refine LeO.bind ?_ (fun _ => ?_))
      | exact variorumref01_Num.mono _ _
      | exact LeO.none _
      | refine LeO.ite ?_ ?_
      | refine LeO.bind ?_ (fun _ => ?_)
set_option maxHeartbeats 8000000 in
set_option maxRecDepth 100000 in
theorem variorumref01_Signed.calls (k : Nat) (A0 : Option Addr) (c0 : Nat) (l0 : List Int) (r1 : Int) (r2 : Int) (w : World) (hr0 : Kd.C (Kd.int .u8) w A0 l0.length l0) (hc0 : l0.length ≤ c0) (h : variorumref01_Signed.f k l0 = some (r1, r2)) :
    Calls Try.prog 113 #[.slice A0 l0.length c0] w fun e w' => e = .returned (.tuple #[.int .i64 r1, .int .i64 r2]) ∧ Drawn0 w w' := by
  have HR0 := Aside0.mk hr0
  have HC0 := Aside0.mk hc0
  clear hr0 hc0
  have H : ((variorumref01_Num.f k l0).bind fun bt391 => (if (Int.tmod bt391.1 2) = 1 then (some (wrap64 (-(wrap64 (Int.tdiv (wrap64 (bt391.1 + 1)) 2))), bt391.2)) else (some (wrap64 (Int.tdiv bt391.1 2), bt391.2)))) = some (r1, r2) := h
  clear h
  replace H := Option.bind_eq_some_iff.mp H
  obtain ⟨⟨t391, t392⟩, A20, H⟩ := H
  replace H : (if (Int.tmod t391 2) = 1 then (some (wrap64 (-(wrap64 (Int.tdiv (wrap64 (t391 + 1)) 2))), t392)) else (some (wrap64 (Int.tdiv t391 2), t392))) = some (r1, r2) := H
  have A2 := Aside0.mk A20
  clear A20
  by_cases c3 : (Int.tmod t391 2) = 1
  · rw [if_pos c3] at H
    have c3b0 : ((Int.tmod t391 2) == 1) = true := beq_iff_eq.mpr c3
    have c3b1 : ((Int.tmod t391 2) != 1) = false := bne_eq_false_iff_eq.mpr c3
    clear c3
    simp only [Option.some.injEq, Prod.mk.injEq] at H
    obtain ⟨rfl, rfl⟩ := H
    go_enter Try.func113, Try.ntmps113
    go_wp2_with (first | ((with_reducible refine gate_callee (f := 53) rfl ?_); refine goesL_ (some 8) rfl rfl Try.func53 (by kernel_rfl) rfl #[.slice A0 l0.length c0] rfl (by (try simp only [List.map_toArray, List.map_cons, List.map_nil]); first | done | rfl | (simp only [List.length_drop, List.length_take]; rfl)) ?_; (with_reducible refine (variorumref01_Num.calls k _ _ l0 t391 t392 _ ?side1 ?side2 A2.out).mono ?_); (case side1 => repeat (first | exact HR0.out | (with_reducible refine Kd.C_alloc ?_ _) | (with_reducible refine Kd.C_drewN ?_ _) | (with_reducible refine Kd.C_drew ?_))); (case side2 => exact HC0.out); rintro e w' ⟨rfl, ⟨nd, rfl⟩⟩; refine ⟨_, rfl, ?_⟩))
    go_ret2
    exact ⟨by first | rfl | (simp; done) | (simp [*]; done), by repeat (first | exact Drawn0.refl _ | apply Drawn0.step)⟩
  · rw [if_neg c3] at H
    have c3b0 : ((Int.tmod t391 2) == 1) = false := beq_eq_false_iff_ne.mpr c3
    have c3b1 : ((Int.tmod t391 2) != 1) = true := bne_iff_ne.mpr c3
    simp only [Option.some.injEq, Prod.mk.injEq] at H
    obtain ⟨rfl, rfl⟩ := H
    go_enter Try.func113, Try.ntmps113
    go_wp2_with (first | ((with_reducible refine gate_callee (f := 53) rfl ?_); refine goesL_ (some 8) rfl rfl Try.func53 (by kernel_rfl) rfl #[.slice A0 l0.length c0] rfl (by (try simp only [List.map_toArray, List.map_cons, List.map_nil]); first | done | rfl | (simp only [List.length_drop, List.length_take]; rfl)) ?_; (with_reducible refine (variorumref01_Num.calls k _ _ l0 t391 t392 _ ?side1 ?side2 A2.out).mono ?_); (case side1 => repeat (first | exact HR0.out | (with_reducible refine Kd.C_alloc ?_ _) | (with_reducible refine Kd.C_drewN ?_ _) | (with_reducible refine Kd.C_drew ?_))); (case side2 => exact HC0.out); rintro e w' ⟨rfl, ⟨nd, rfl⟩⟩; refine ⟨_, rfl, ?_⟩))
    go_ret2
    exact ⟨by first | rfl | (simp; done) | (simp [*]; done), by repeat (first | exact Drawn0.refl _ | apply Drawn0.step)⟩

end Go.Proofs.Ytedfcjcnhgomoaa.P
end
-- MERGED YtedfcjcnhgomoaaVaryRef
section
/- The reference's numbers and texts as bytes come to the same plain law. -/
namespace Go.Proofs.Ytedfcjcnhgomoaa.VaryRef
open Go.RowKit Go.Proofs.Ytedfcjcnhgomoaa.P Go.Proofs.YtedfcjcnhgomoaaW.PrintWords Go.Proofs.YtedfcjcnhgomoaaW.PrintLast Go.Proofs.YtedfcjcnhgomoaaW.PrintMore Go.Proofs.Ytedfcjcnhgomoaa.Own Go.Proofs.Ytedfcjcnhgomoaa.Vy Go.Proofs.Ytedfcjcnhgomoaa.VaryR

theorem put_eq (k : Nat) (x : Int) (l : List Int) : variorumref01_Put.l0 (k + 1) x l = if x ≥ 128 then (if l.length < 140737488355328 then (variorumref01_Put.l0 k (wrap64 (Int.tdiv x 128)) (l ++ [(wrap64 ((Int.tmod x 128) + 128)) % 256])) else (none)) else (if l.length < 140737488355328 then (some (l ++ [(x) % 256])) else (none)) := by
  rw [variorumref01_Put.l0]
theorem put_j (k : Nat) (x : Int) (l : List Int) (b : Bool) : variorumref01_Put.j0 (k + 1) x l b = if b = true then (some l) else (variorumref01_Put.l0 k x l) := by
  rw [variorumref01_Put.j0]
theorem put_run : ∀ (m k : Nat) (acc : List Int), m ≤ 4611686018427387904 → acc.length + (enc m).length ≤ 140737488355000 → variorumref01_Put.l0 (k + (enc m).length) (m : Int) acc = some (acc ++ enc m) := by
  intro m
  induction m using Nat.strongRecOn with
  | _ m ih =>
    intro k acc hm hl
    by_cases h : m < 128
    · rw [enc_lt h] at hl ⊢
      rw [show k + [(m : Int)].length = k + 1 from rfl, put_eq, if_neg (by omega), if_pos (by omega), show (m : Int) % 256 = m by omega]
    · rw [enc_ge (by omega)] at hl ⊢
      simp only [List.length_cons] at hl ⊢
      rw [show k + ((enc (m / 128)).length + 1) = (k + (enc (m / 128)).length) + 1 by omega, put_eq, if_pos (by omega), if_pos (by omega)]
      rw [Int.tdiv_eq_ediv_of_nonneg (by omega), Int.tmod_eq_emod_of_nonneg (by omega), Byt.wrap_in _ (by omega), Byt.wrap_in _ (by omega)]
      rw [show (m : Int) / 128 = ((m / 128 : Nat) : Int) by omega, show ((m : Int) % 128 + 128) % 256 = ((m % 128 + 128 : Nat) : Int) by omega]
      rw [ih (m / 128) (by omega) k _ (by omega) (by simp; omega)]
      simp
theorem put_f (l : List Int) (n : Int) (k : Nat) (hk : 10 ≤ k) (hl : l.length ≤ 140737488354000) : variorumref01_Put.f k l n = some (putL l n) := by
  unfold variorumref01_Put.f putL
  obtain ⟨k, rfl⟩ : ∃ q, k = q + 1 := ⟨k - 1, by omega⟩
  simp only [Option.bind_some, List.nil_append, List.length_nil]
  rw [if_pos (by omega)]
  by_cases h0 : n < 0
  · rw [if_pos h0, put_j, if_pos rfl, if_pos (.inl h0)]
  · rw [if_neg h0, put_j]
    by_cases h1 : n > 4611686018427387904
    · rw [if_pos (by simpa using h1), if_pos (.inr h1)]
    · obtain ⟨m, rfl⟩ : ∃ m : Nat, n = (m : Int) := ⟨n.toNat, by omega⟩
      rw [if_neg (by simpa using h1), if_neg (by have : M = 4611686018427387904 := rfl; omega), Int.toNat_natCast]
      have h9 := enc_len9 (n := m) (by omega)
      have := put_run m (k - (enc m).length) l (by omega) (by omega)
      rwa [show k - (enc m).length + (enc m).length = k by omega] at this
theorem putS_f (l : List Int) (n : Int) (hl : l.length ≤ 140737488354000) : variorumref01_PutSigned.f 11 l n = some (putSL l n) := by
  unfold variorumref01_PutSigned.f putSL
  by_cases h0 : n < -2305843009213693952
  · rw [if_pos h0, if_pos (.inl h0), variorumref01_PutSigned.j0, if_pos rfl]
    simp only [Option.bind_some, List.nil_append, List.length_nil]
    rw [if_pos (by omega)]
  · rw [if_neg h0, variorumref01_PutSigned.j0]
    by_cases h1 : n > 2305843009213693952
    · rw [if_pos (by simpa using h1), if_pos (.inr h1)]
      simp only [Option.bind_some, List.nil_append, List.length_nil]
      rw [if_pos (by omega)]
    · have hno : ¬ (n < -2305843009213693952 ∨ 2305843009213693952 < n) := by omega
      rw [if_neg (by simpa using h1)]
      rw [if_neg hno]
      unfold zig
      by_cases h2 : n < 0
      · rw [if_pos h2, if_pos h2, Byt.wrap_in (-n) (by omega), Byt.wrap_in (2 * -n) (by omega), Byt.wrap_in _ (by omega), put_f _ _ _ (by decide) hl, show 2 * -n - 1 = -2 * n - 1 by omega]; rfl
      · rw [if_neg h2, if_neg h2, Byt.wrap_in _ (by omega), put_f _ _ _ (by decide) hl]; rfl
theorem bytesOf_eq (s : ByteArray) : bytesOf s = numsOf s := rfl
theorem putT_f (l : List Int) (s : ByteArray) (k : Nat) (hk : 10 ≤ k) (hl : l.length + s.size ≤ 140737488353000) : variorumref01_PutText.f k l s = some (putTL l (numsOf s)) := by
  unfold variorumref01_PutText.f putTL
  rw [put_f _ _ _ hk (by omega), Option.bind_some, numsOf_length]
  have := putL_len l (s.size : Int)
  rw [if_pos (by omega), bytesOf_eq]

theorem num_l0 (k : Nat) (l : List Int) (n s i : Int) : variorumref01_Num.l0 (k + 1) l n s i = if i < (l.length : Int) then (variorumref01_Num.j1 k l n s i (decide (i < 9))) else (variorumref01_Num.j1 k l n s i false) := by
  rw [variorumref01_Num.l0]
theorem num_j1 (k : Nat) (x0 : List Int) (x4 x5 x6 : Int) (x15 : Bool) : variorumref01_Num.j1 (k + 1) x0 x4 x5 x6 x15 = if x15 = true then (if 0 ≤ x6 then (if x6 < (x0.length : Int) then (if (Int.tmod (wrap64 (rd x0 x6)) 128) > 0 then (if x5 = 0 then (none) else (variorumref01_Num.j2 k x0 x4 x5 x6 (Int.tmod (wrap64 (rd x0 x6)) 128) (decide ((Int.tmod (wrap64 (rd x0 x6)) 128) > (wrap64 (Int.tdiv (wrap64 (4611686018427387904 - x4)) x5)))))) else (variorumref01_Num.j2 k x0 x4 x5 x6 (Int.tmod (wrap64 (rd x0 x6)) 128) false)) else (none)) else (none)) else (some (0, 0)) := by
  rw [variorumref01_Num.j1]
theorem num_j2 (k : Nat) (x0 : List Int) (x4 x5 x6 x7 : Int) (x33 : Bool) : variorumref01_Num.j2 (k + 1) x0 x4 x5 x6 x7 x33 = if x33 = true then (some (0, 0)) else (if 0 ≤ x6 then (if x6 < (x0.length : Int) then (if (rd x0 x6) < 128 then (if x7 = 0 then (if x6 > 0 then (some (0, 0)) else (some (wrap64 (x4 + (wrap64 (x7 * x5))), wrap64 (x6 + 1)))) else (some (wrap64 (x4 + (wrap64 (x7 * x5))), wrap64 (x6 + 1)))) else (variorumref01_Num.l0 k x0 (wrap64 (x4 + (wrap64 (x7 * x5)))) (wrap64 (x5 * 128)) (wrap64 (x6 + 1)))) else (none)) else (none)) := by
  rw [variorumref01_Num.j2]
/-- The pair as the machine has it. -/
def pr (p : Int × Nat) : Int × Int := (p.1, (p.2 : Int))
theorem num_run (l : List Int) (hok : Byt.Ok l) : ∀ (d i k : Nat) (n : Int), i + d = 9 → 0 ≤ n → n ≤ M →
    variorumref01_Num.l0 (k + 3 * d + 2) l n (scal i) (i : Int) = some (pr (numG i n (l.drop i))) := by
  intro d
  induction d with
  | zero =>
    intro i k n hd h0 h1
    obtain rfl : i = 9 := by omega
    rw [numG_end (.inl (by omega)), show k + 3 * 0 + 2 = (k + 1) + 1 by omega, num_l0]
    split
    · rw [num_j1, if_neg (by simp)]; rfl
    · rw [num_j1, if_neg (by simp)]; rfl
  | succ d ih =>
    intro i k n hd h0 h1
    rw [show k + 3 * (d + 1) + 2 = (((k + 3 * d + 2) + 1) + 1) + 1 by omega, num_l0]
    by_cases hlt : i < l.length
    · obtain ⟨x, hx⟩ : ∃ x, l[i] = x := ⟨_, rfl⟩
      have hxr : 0 ≤ x ∧ x ≤ 255 := hok x (hx ▸ List.getElem_mem hlt)
      have hrd : rd l (i : Int) = x := by unfold rd; rw [Byt.rd_at l i hlt, hx]
      have hdrop : l.drop i = x :: l.drop (i + 1) := by rw [List.drop_eq_getElem_cons hlt, hx]
      have hi9 : i < 9 := by omega
      have hs := scal_le hi9
      have hs0 := Vy.pow_pos i
      have hs1 := pow_le8 (k := i) (by omega)
      have hM : M = 4611686018427387904 := rfl
      rw [if_pos (by omega), num_j1, if_pos (by simp; omega), if_pos (by omega), if_pos (by omega), hrd, Byt.wrap_in x (by omega), Int.tmod_eq_emod_of_nonneg (by omega), hs, hdrop]
      have hP0 : 0 ≤ x % 128 * 128 ^ i := Int.mul_nonneg (by omega) (by omega)
      have hdv : (M - n) / 128 ^ i ≤ M - n := Int.ediv_le_self _ (by omega)
      have hdd : (4611686018427387904 - n) / 128 ^ i = (M - n) / 128 ^ i := rfl
      have hdv0 : 0 ≤ (M - n) / 128 ^ i := Int.ediv_nonneg (by omega) (by omega)
      by_cases hb : 0 < x % 128 ∧ (M - n) / 128 ^ i < x % 128
      · rw [if_pos hb.1, if_neg (by omega), Byt.wrap_in (4611686018427387904 - n) (by omega), Int.tdiv_eq_ediv_of_nonneg (by omega), Byt.wrap_in _ (by omega), num_j2, if_pos (by simpa using hb.2), numG_bad hi9 hb.1 hb.2]; rfl
      · have hle : n + x % 128 * 128 ^ i ≤ M := by
          by_cases hk : 0 < x % 128
          · have := (le_div (x % 128) (M - n) (128 ^ i) hs0).1 (by omega)
            omega
          · have : x % 128 = 0 := by omega
            rw [this]; omega
        have hj : (if x % 128 > 0 then (if (128 : Int) ^ i = 0 then (none) else (variorumref01_Num.j2 (k + 3 * d + 2 + 1) l n (128 ^ i) (i : Int) (x % 128) (decide (x % 128 > (wrap64 (Int.tdiv (wrap64 (4611686018427387904 - n)) (128 ^ i))))))) else (variorumref01_Num.j2 (k + 3 * d + 2 + 1) l n (128 ^ i) (i : Int) (x % 128) false)) = variorumref01_Num.j2 (k + 3 * d + 2 + 1) l n (128 ^ i) (i : Int) (x % 128) false := by
          by_cases hk : 0 < x % 128
          · rw [if_pos hk, if_neg (by omega), Byt.wrap_in (4611686018427387904 - n) (by omega), Int.tdiv_eq_ediv_of_nonneg (by omega), Byt.wrap_in _ (by omega), decide_eq_false (by omega)]
          · rw [if_neg hk]
        rw [hj, num_j2, if_neg (by simp), if_pos (by omega), if_pos (by omega), hrd, Byt.wrap_in (x % 128 * 128 ^ i) (by omega), Byt.wrap_in (n + x % 128 * 128 ^ i) (by omega), Byt.wrap_in ((i : Int) + 1) (by omega)]
        by_cases hge : 128 ≤ x
        · rw [if_neg (by omega), numG_more hi9 hb hge]
          have hsn := scal_next hi9
          rw [hs] at hsn
          rw [hsn, show (i : Int) + 1 = ((i + 1 : Nat) : Int) by omega]
          exact ih (i + 1) k _ (by omega) (by omega) hle
        · rw [if_pos (by omega)]
          by_cases hz : x % 128 = 0 ∧ 0 < i
          · rw [if_pos hz.1, if_pos (by omega), numG_idle hi9 (by omega) hz.1 hz.2]; rfl
          · rw [numG_last hi9 hb (by omega) hz]
            by_cases hz1 : x % 128 = 0
            · rw [if_pos hz1, if_neg (by omega)]; rfl
            · rw [if_neg hz1]; rfl
    · rw [if_neg (by omega), num_j1, if_neg (by simp), numG_end (.inr (List.drop_of_length_le (by omega)))]; rfl
theorem num_f (l : List Int) (hok : Byt.Ok l) : variorumref01_Num.f 29 l = some (pr (numL l)) := by
  unfold variorumref01_Num.f numL
  have := num_run l hok 9 0 0 0 (by omega) (by omega) (by decide)
  simpa [scal] using this
theorem signed_f (l : List Int) (hok : Byt.Ok l) : variorumref01_Signed.f 29 l = some (pr (sgnL l)) := by
  unfold variorumref01_Signed.f sgnL
  rw [num_f l hok, Option.bind_some]
  obtain ⟨h0, h1⟩ := numL_nonneg hok
  have hM : M = 4611686018427387904 := rfl
  unfold pr zag
  simp only
  obtain ⟨r, hr⟩ : ∃ r, r = (numL l).1 := ⟨_, rfl⟩
  rw [← hr] at h0 h1 ⊢
  rw [Int.tmod_eq_emod_of_nonneg h0, Int.tdiv_eq_ediv_of_nonneg h0, Byt.wrap_in (r + 1) (by omega), Int.tdiv_eq_ediv_of_nonneg (by omega), Byt.wrap_in ((r + 1) / 2) (by omega), Byt.wrap_in (-((r + 1) / 2)) (by omega), Byt.wrap_in (r / 2) (by omega)]
  split <;> rfl

theorem nPut (v : Value) (l : List Int) (n : Int) (w : World) (hs : Sl w v l) (hl : l.length ≤ 140737488354000) :
    Calls Try.prog 41 #[v, .int .i64 n] w fun e w' => ∃ v', e = .returned v' ∧ Gr w.heap.size 5 w' v' (putL l n) ∧ Below w.heap.size w w' := by
  obtain ⟨A, c, rfl, hc, hC⟩ := hs
  exact (variorumref01_Put.calls 10 A c l n _ w hC hc (put_f l n 10 (by decide) hl)).mono fun e w' ⟨v', he, hr, hb⟩ => ⟨v', he, Gr.of_R hr, hb⟩
theorem nPutSigned (v : Value) (l : List Int) (n : Int) (w : World) (hs : Sl w v l) (hl : l.length ≤ 140737488354000) :
    Calls Try.prog 64 #[v, .int .i64 n] w fun e w' => ∃ v', e = .returned v' ∧ Gr w.heap.size 5 w' v' (putSL l n) ∧ Below w.heap.size w w' := by
  obtain ⟨A, c, rfl, hc, hC⟩ := hs
  exact (variorumref01_PutSigned.calls 11 A c l n _ w hC hc (putS_f l n hl)).mono fun e w' ⟨v', he, hr, hb⟩ => ⟨v', he, Gr.of_R hr, hb⟩
theorem nPutText (v : Value) (l : List Int) (s : ByteArray) (w : World) (hs : Sl w v l) (hl : l.length + s.size ≤ 140737488353000) :
    Calls Try.prog 65 #[v, .string s] w fun e w' => ∃ v', e = .returned v' ∧ Gr w.heap.size 5 w' v' (putTL l (numsOf s)) ∧ Below w.heap.size w w' := by
  obtain ⟨A, c, rfl, hc, hC⟩ := hs
  exact (variorumref01_PutText.calls 10 A c l s _ w hC hc (putT_f l s 10 (by decide) hl)).mono fun e w' ⟨v', he, hr, hb⟩ => ⟨v', he, Gr.of_R hr, hb⟩
theorem nNum (v : Value) (l : List Int) (w : World) (hs : Sl w v l) (hok : Byt.Ok l) :
    Calls Try.prog 53 #[v] w fun e w' => e = .returned (.tuple #[.int .i64 (numL l).1, .int .i64 ((numL l).2 : Int)]) ∧ Drawn0 w w' := by
  obtain ⟨A, c, rfl, hc, hC⟩ := hs
  exact variorumref01_Num.calls 29 A c l _ _ w hC hc (num_f l hok)
theorem nSigned (v : Value) (l : List Int) (w : World) (hs : Sl w v l) (hok : Byt.Ok l) :
    Calls Try.prog 113 #[v] w fun e w' => e = .returned (.tuple #[.int .i64 (sgnL l).1, .int .i64 ((sgnL l).2 : Int)]) ∧ Drawn0 w w' := by
  obtain ⟨A, c, rfl, hc, hC⟩ := hs
  exact variorumref01_Signed.calls 29 A c l _ _ w hC hc (signed_f l hok)
set_option maxHeartbeats 1000000 in
set_option maxRecDepth 100000 in
theorem nText (v : Value) (l : List Int) (w : World) (hs : Sl w v l) (hok : Byt.Ok l) (hl : l.length ≤ 140737488354000) :
    Calls Try.prog 91 #[v] w fun e w' => e = .returned (.tuple #[.string (strOfNums (textL l).1), .int .i64 ((textL l).2 : Int)]) ∧ Drawn0 w w' := by
  have H := Aside0.mk hs
  have HO := Aside0.mk hok
  have hle := numL_le hok
  obtain ⟨hn0, hn1⟩ := numL_nonneg hok
  obtain ⟨r, hr⟩ : ∃ r : Nat, (r : Int) = (numL l).1 := ⟨(numL l).1.toNat, by omega⟩
  obtain ⟨k, hk⟩ : ∃ k : Nat, k = (numL l).2 := ⟨_, rfl⟩
  have hn2 : (r : Int) ≤ 4611686018427387904 := by rw [hr]; exact hn1
  rw [← hk] at hle
  have hn := fun w hs => nNum v l w hs hok
  rw [← hr, ← hk] at hn
  have HT1 := Aside0.mk (show k = 0 ∨ (l.length : Int) - k < r → textL l = ([], 0) by
    intro hz
    unfold textL
    rw [← hr, ← hk, if_pos hz])
  have HT2 := Aside0.mk (show k ≠ 0 → (r : Int) ≤ (l.length : Int) - k → textL l = ((l.take (k + r)).drop k, k + r) by
    intro hz hq
    unfold textL
    rw [← hr, ← hk, if_neg (by omega), Int.toNat_natCast, List.drop_take, Nat.add_sub_cancel_left])
  obtain ⟨A, c, rfl, hc, hC⟩ := hs
  have hC2 := Sl.mk hC hc
  clear hn0 hn1 hr hk hC
  by_cases hz : k = 0
  · have HT := Aside0.mk (HT1.out (.inl hz))
    subst hz
    go_enter Try.func91, Try.ntmps91
    go_wp2_with fail
    refine (hn _ H.out).mono ?_
    rintro e w' ⟨rfl, n, rfl⟩
    clear hn
    go_wp2_with fail
    go_ret2
    rw [HT.out]
    exact ⟨rfl, ⟨_, rfl⟩⟩
  · have hz2 : ((k : Int) == 0) = false := by simp; omega
    have hz3 : ¬ (k : Int) = 0 := by omega
    have HZ := Aside0.mk hz
    by_cases hlt : (l.length : Int) - k < r
    · have HT := Aside0.mk (HT1.out (.inr hlt))
      clear hz
      go_enter Try.func91, Try.ntmps91
      go_wp2_with fail
      refine (hn _ H.out).mono ?_
      rintro e w' ⟨rfl, n, rfl⟩
      clear hn
      go_wp2_with fail
      go_ret2
      rw [HT.out]
      exact ⟨rfl, ⟨_, rfl⟩⟩
    · have HT := Aside0.mk (HT2.out hz (by omega))
      have hlt2 : ¬ ((l.length : Int) - k < r) := hlt
      obtain ⟨u, hcut, hu⟩ := slice_mid (P := Try.prog) 25 5 Try.underlying25 info5 hC2 (k : Int) ((k : Int) + (r : Int)) (by omega) (by omega) (by omega)
      rw [show ((k : Int) + (r : Int)).toNat = k + r by omega, Int.toNat_natCast] at hu
      have hcv := fun n => (hu.drewN n).string (P := Try.prog) Try.underlying25 Try.underlying5 Try.underlying9
      have hsum : (k : Int) + (r : Int) ≤ 140737488355000 := by omega
      clear hz hu hC2
      go_enter Try.func91, Try.ntmps91
      go_wp2_with fail
      refine (hn _ H.out).mono ?_
      rintro e w' ⟨rfl, n, rfl⟩
      clear hn
      go_wp2_with fail
      go_ret2
      rw [HT.out]
      exact ⟨rfl, ⟨_, rfl⟩⟩
end Go.Proofs.Ytedfcjcnhgomoaa.VaryRef
end
-- MERGED YtedfcjcnhgomoaaVaryM
section
/- The walks of vary's reader's methods. -/
namespace Go.Proofs.Ytedfcjcnhgomoaa.VaryR
open Go.RowKit Go.Proofs.Ytedfcjcnhgomoaa.P Go.Proofs.YtedfcjcnhgomoaaW.PrintWords Go.Proofs.YtedfcjcnhgomoaaW.PrintLast Go.Proofs.YtedfcjcnhgomoaaW.PrintMore Go.Proofs.Ytedfcjcnhgomoaa.Own Go.Proofs.Ytedfcjcnhgomoaa.Vy

set_option maxHeartbeats 1000000 in
theorem num_read (g : Nat) (w : World) (v : Value) (l : List Int) (a : Nat) (h : RdAt g w v l a false) (hok : Byt.Ok l) :
    Calls Try.prog 85 #[.pointer (some ⟨g, 0, none⟩), .func (.func 86) #[] #[]] w (RdPost g v l a false (if (numL (l.drop a)).2 = 0 then (.int .i64 0) else (.int .i64 (numL (l.drop a)).1)) (numL (l.drop a)).2 w) := by
  have H := Aside0.mk h
  clear h
  by_cases hk : (numL (l.drop a)).2 = 0
  · have HK := Aside0.mk hk
    rw [if_pos hk]
    clear hk
    go_enter Try.func85, Try.ntmps85
    go_wp2_with fail
    refine (bad_c g _ v l a false H.out).mono ?_
    rintro e w' ⟨rfl, rfl⟩
    go_wp2_with fail
    refine (numFn_c g _ v l a H.out hok).mono ?_
    rintro e w' ⟨a', rfl, h1, h2, h3⟩
    have H1 := Aside0.mk h1
    have H2 := Aside0.mk h2
    have H3 := Aside0.mk h3
    rw [decide_eq_true HK.out] at h1
    have H4 := Aside0.mk h1
    clear h1 h2 h3
    go_wp2_with fail
    refine (bad_c g _ v l a' true H4.out).mono ?_
    rintro e w' ⟨rfl, rfl⟩
    go_wp2_with fail
    go_ret
    exact RdPost.mk H1.out H2.out H3.out
  · have HK := Aside0.mk hk
    rw [if_neg hk]
    clear hk
    go_enter Try.func85, Try.ntmps85
    go_wp2_with fail
    refine (bad_c g _ v l a false H.out).mono ?_
    rintro e w' ⟨rfl, rfl⟩
    go_wp2_with fail
    refine (numFn_c g _ v l a H.out hok).mono ?_
    rintro e w' ⟨a', rfl, h1, h2, h3⟩
    have H1 := Aside0.mk h1
    have H2 := Aside0.mk h2
    have H3 := Aside0.mk h3
    rw [decide_eq_false HK.out] at h1
    have H4 := Aside0.mk h1
    clear h1 h2 h3
    go_wp2_with fail
    refine (bad_c g _ v l a' false H4.out).mono ?_
    rintro e w' ⟨rfl, rfl⟩
    go_wp2_with fail
    go_ret
    exact RdPost.mk H1.out H2.out H3.out

set_option maxHeartbeats 1000000 in
theorem signed_read (g : Nat) (w : World) (v : Value) (l : List Int) (a : Nat) (h : RdAt g w v l a false) (hok : Byt.Ok l) :
    Calls Try.prog 85 #[.pointer (some ⟨g, 0, none⟩), .func (.func 112) #[] #[]] w (RdPost g v l a false (if (sgnL (l.drop a)).2 = 0 then (.int .i64 0) else (.int .i64 (sgnL (l.drop a)).1)) (sgnL (l.drop a)).2 w) := by
  have H := Aside0.mk h
  clear h
  by_cases hk : (sgnL (l.drop a)).2 = 0
  · have HK := Aside0.mk hk
    rw [if_pos hk]
    clear hk
    go_enter Try.func85, Try.ntmps85
    go_wp2_with fail
    refine (bad_c g _ v l a false H.out).mono ?_
    rintro e w' ⟨rfl, rfl⟩
    go_wp2_with fail
    refine (signed_c g _ v l a H.out hok).mono ?_
    rintro e w' ⟨a', rfl, h1, h2, h3⟩
    have H1 := Aside0.mk h1
    have H2 := Aside0.mk h2
    have H3 := Aside0.mk h3
    rw [decide_eq_true HK.out] at h1
    have H4 := Aside0.mk h1
    clear h1 h2 h3
    go_wp2_with fail
    refine (bad_c g _ v l a' true H4.out).mono ?_
    rintro e w' ⟨rfl, rfl⟩
    go_wp2_with fail
    go_ret
    exact RdPost.mk H1.out H2.out H3.out
  · have HK := Aside0.mk hk
    rw [if_neg hk]
    clear hk
    go_enter Try.func85, Try.ntmps85
    go_wp2_with fail
    refine (bad_c g _ v l a false H.out).mono ?_
    rintro e w' ⟨rfl, rfl⟩
    go_wp2_with fail
    refine (signed_c g _ v l a H.out hok).mono ?_
    rintro e w' ⟨a', rfl, h1, h2, h3⟩
    have H1 := Aside0.mk h1
    have H2 := Aside0.mk h2
    have H3 := Aside0.mk h3
    rw [decide_eq_false HK.out] at h1
    have H4 := Aside0.mk h1
    clear h1 h2 h3
    go_wp2_with fail
    refine (bad_c g _ v l a' false H4.out).mono ?_
    rintro e w' ⟨rfl, rfl⟩
    go_wp2_with fail
    go_ret
    exact RdPost.mk H1.out H2.out H3.out

set_option maxHeartbeats 1000000 in
theorem text_read (g : Nat) (w : World) (v : Value) (l : List Int) (a : Nat) (h : RdAt g w v l a false) (hok : Byt.Ok l) :
    Calls Try.prog 89 #[.pointer (some ⟨g, 0, none⟩), .func (.func 90) #[] #[]] w (RdPost g v l a false (if (textL (l.drop a)).2 = 0 then (.string ⟨#[]⟩) else (.string (strOfNums (textL (l.drop a)).1))) (textL (l.drop a)).2 w) := by
  have H := Aside0.mk h
  clear h
  by_cases hk : (textL (l.drop a)).2 = 0
  · have HK := Aside0.mk hk
    rw [if_pos hk]
    clear hk
    go_enter Try.func89, Try.ntmps89
    go_wp2_with fail
    refine (bad_c g _ v l a false H.out).mono ?_
    rintro e w' ⟨rfl, rfl⟩
    go_wp2_with fail
    refine (text_c g _ v l a H.out hok).mono ?_
    rintro e w' ⟨a', rfl, h1, h2, h3⟩
    have H1 := Aside0.mk h1
    have H2 := Aside0.mk h2
    have H3 := Aside0.mk h3
    rw [decide_eq_true HK.out] at h1
    have H4 := Aside0.mk h1
    clear h1 h2 h3
    go_wp2_with fail
    refine (bad_c g _ v l a' true H4.out).mono ?_
    rintro e w' ⟨rfl, rfl⟩
    go_wp2_with fail
    go_ret
    exact RdPost.mk H1.out H2.out H3.out
  · have HK := Aside0.mk hk
    rw [if_neg hk]
    clear hk
    go_enter Try.func89, Try.ntmps89
    go_wp2_with fail
    refine (bad_c g _ v l a false H.out).mono ?_
    rintro e w' ⟨rfl, rfl⟩
    go_wp2_with fail
    refine (text_c g _ v l a H.out hok).mono ?_
    rintro e w' ⟨a', rfl, h1, h2, h3⟩
    have H1 := Aside0.mk h1
    have H2 := Aside0.mk h2
    have H3 := Aside0.mk h3
    rw [decide_eq_false HK.out] at h1
    have H4 := Aside0.mk h1
    clear h1 h2 h3
    go_wp2_with fail
    refine (bad_c g _ v l a' false H4.out).mono ?_
    rintro e w' ⟨rfl, rfl⟩
    go_wp2_with fail
    go_ret
    exact RdPost.mk H1.out H2.out H3.out

set_option maxHeartbeats 1000000 in
theorem readStr_bad (F : Nat) (g : Nat) (w : World) (v : Value) (l : List Int) (a : Nat) (k : Nat) (h : Rd g w v l a true) :
    Calls Try.prog 89 #[.pointer (some ⟨g, 0, none⟩), .func (.func F) #[] #[]] w (RdPost g v l a true (.string ⟨#[]⟩) k w) := by
  obtain ⟨a', h, _⟩ := h
  have H := Aside0.mk h
  clear h
  go_enter Try.func89, Try.ntmps89
  go_wp2_with fail
  refine (bad_c g _ v l a' true H.out).mono ?_
  rintro e w' ⟨rfl, rfl⟩
  go_wp2_with fail
  go_ret
  exact ⟨rfl, ⟨a', H.out, fun h => by cases h⟩, But.refl g _⟩
theorem num_zero {l : List Int} (h : (numL l).2 = 0) : (numL l).1 = 0 := numL_zero h
theorem sgn_zero {l : List Int} (h : (sgnL l).2 = 0) : (sgnL l).1 = 0 := by
  unfold sgnL at h ⊢; simp only at h ⊢; rw [numL_zero h]; rfl
theorem text_zero {l : List Int} (h : (textL l).2 = 0) : (textL l).1 = [] := by
  unfold textL at h ⊢
  split
  · rfl
  · rename_i h1
    rw [if_neg h1] at h
    exact absurd h (by simp only; omega)
theorem strOf_nil : strOfNums [] = ⟨#[]⟩ := rfl
theorem stepV_true {α : Type} (z : α) (k : Nat) (x : α) : stepV z true k x = z := rfl
theorem stepV_false {α : Type} {z : α} {k : Nat} {x : α} (h : k = 0 → x = z) : stepV z false k x = x := by
  unfold stepV stepB
  by_cases hk : k = 0
  · simp [hk, h hk]
  · simp [hk]

set_option maxHeartbeats 1000000 in
theorem nNum (g : Nat) (w : World) (v : Value) (l : List Int) (a : Nat) (bad : Bool) (h : Rd g w v l a bad) (hok : Byt.Ok l) :
    Calls Try.prog 45 #[.pointer (some ⟨g, 0, none⟩)] w (RdPost g v l a bad (.int .i64 (stepV 0 bad (numL (l.drop a)).2 (numL (l.drop a)).1)) (numL (l.drop a)).2 w) := by
  cases bad with
  | true =>
    have H := Aside0.mk h
    clear h
    rw [stepV_true]
    go_enter Try.func45, Try.ntmps45
    go_wp2_with fail
    refine (readInt_bad _ g _ v l a (numL (l.drop a)).2 H.out).mono ?_
    rintro e w' ⟨rfl, h1, h2⟩
    have H1 := Aside0.mk h1
    have H2 := Aside0.mk h2
    clear h1 h2
    go_wp2_with fail
    go_ret
    exact ⟨rfl, H1.out, H2.out⟩
  | false =>
    obtain ⟨a', h, ha⟩ := h
    obtain rfl := ha rfl
    have H := Aside0.mk h
    clear h ha
    rw [stepV_false num_zero]
    go_enter Try.func45, Try.ntmps45
    go_wp2_with fail
    refine (num_read g _ v l a' H.out hok).mono ?_
    rintro e w' ⟨rfl, h1, h2⟩
    have H1 := Aside0.mk h1
    have H2 := Aside0.mk h2
    clear h1 h2
    by_cases hk : (numL (l.drop a')).2 = 0
    · have HZ := Aside0.mk (num_zero hk)
      rw [if_pos hk]
      clear hk
      go_wp2_with fail
      go_ret
      exact ⟨by rw [HZ.out]; rfl, H1.out, H2.out⟩
    · rw [if_neg hk]
      clear hk
      go_wp2_with fail
      go_ret
      exact ⟨rfl, H1.out, H2.out⟩

set_option maxHeartbeats 1000000 in
theorem nSigned (g : Nat) (w : World) (v : Value) (l : List Int) (a : Nat) (bad : Bool) (h : Rd g w v l a bad) (hok : Byt.Ok l) :
    Calls Try.prog 102 #[.pointer (some ⟨g, 0, none⟩)] w (RdPost g v l a bad (.int .i64 (stepV 0 bad (sgnL (l.drop a)).2 (sgnL (l.drop a)).1)) (sgnL (l.drop a)).2 w) := by
  cases bad with
  | true =>
    have H := Aside0.mk h
    clear h
    rw [stepV_true]
    go_enter Try.func102, Try.ntmps102
    go_wp2_with fail
    refine (readInt_bad _ g _ v l a (sgnL (l.drop a)).2 H.out).mono ?_
    rintro e w' ⟨rfl, h1, h2⟩
    have H1 := Aside0.mk h1
    have H2 := Aside0.mk h2
    clear h1 h2
    go_wp2_with fail
    go_ret
    exact ⟨rfl, H1.out, H2.out⟩
  | false =>
    obtain ⟨a', h, ha⟩ := h
    obtain rfl := ha rfl
    have H := Aside0.mk h
    clear h ha
    rw [stepV_false sgn_zero]
    go_enter Try.func102, Try.ntmps102
    go_wp2_with fail
    refine (signed_read g _ v l a' H.out hok).mono ?_
    rintro e w' ⟨rfl, h1, h2⟩
    have H1 := Aside0.mk h1
    have H2 := Aside0.mk h2
    clear h1 h2
    by_cases hk : (sgnL (l.drop a')).2 = 0
    · have HZ := Aside0.mk (sgn_zero hk)
      rw [if_pos hk]
      clear hk
      go_wp2_with fail
      go_ret
      exact ⟨by rw [HZ.out]; rfl, H1.out, H2.out⟩
    · rw [if_neg hk]
      clear hk
      go_wp2_with fail
      go_ret
      exact ⟨rfl, H1.out, H2.out⟩

set_option maxHeartbeats 1000000 in
theorem nText (g : Nat) (w : World) (v : Value) (l : List Int) (a : Nat) (bad : Bool) (h : Rd g w v l a bad) (hok : Byt.Ok l) :
    Calls Try.prog 51 #[.pointer (some ⟨g, 0, none⟩)] w (RdPost g v l a bad (.string (strOfNums (stepV [] bad (textL (l.drop a)).2 (textL (l.drop a)).1))) (textL (l.drop a)).2 w) := by
  cases bad with
  | true =>
    have H := Aside0.mk h
    clear h
    rw [stepV_true]
    go_enter Try.func51, Try.ntmps51
    go_wp2_with fail
    refine (readStr_bad _ g _ v l a (textL (l.drop a)).2 H.out).mono ?_
    rintro e w' ⟨rfl, h1, h2⟩
    have H1 := Aside0.mk h1
    have H2 := Aside0.mk h2
    clear h1 h2
    go_wp2_with fail
    go_ret
    exact ⟨rfl, H1.out, H2.out⟩
  | false =>
    obtain ⟨a', h, ha⟩ := h
    obtain rfl := ha rfl
    have H := Aside0.mk h
    clear h ha
    rw [stepV_false text_zero]
    go_enter Try.func51, Try.ntmps51
    go_wp2_with fail
    refine (text_read g _ v l a' H.out hok).mono ?_
    rintro e w' ⟨rfl, h1, h2⟩
    have H1 := Aside0.mk h1
    have H2 := Aside0.mk h2
    clear h1 h2
    by_cases hk : (textL (l.drop a')).2 = 0
    · have HZ := Aside0.mk (text_zero hk)
      rw [if_pos hk]
      clear hk
      go_wp2_with fail
      go_ret
      exact ⟨by rw [HZ.out]; rfl, H1.out, H2.out⟩
    · rw [if_neg hk]
      clear hk
      go_wp2_with fail
      go_ret
      exact ⟨rfl, H1.out, H2.out⟩

/-! A step that reads something, and one that doesn't. -/
theorem rd_ok {g : Nat} {w : World} {v : Value} {l : List Int} {a k : Nat} (h : Rd g w v l (stepA false a k) (stepB false k)) (hk : k ≠ 0) : Rd g w v l (a + k) false := by
  have e1 : stepB false k = false := by unfold stepB; simp [hk]
  rw [e1] at h; exact h
theorem rd_no {g : Nat} {w : World} {v : Value} {l : List Int} {a k : Nat} (h : Rd g w v l (stepA false a k) (stepB false k)) (hk : k = 0) : Rd g w v l a true := by
  subst hk; exact h
theorem nNum_ok (g : Nat) (w : World) (v : Value) (l : List Int) (a : Nat) (x : Int) (k : Nat) (h : Rd g w v l a false) (hok : Byt.Ok l) (hx : numL (l.drop a) = (x, k)) (hk : k ≠ 0) :
    Calls Try.prog 45 #[.pointer (some ⟨g, 0, none⟩)] w fun e w' => e = .returned (.int .i64 x) ∧ Rd g w' v l (a + k) false ∧ But g w w' := by
  have := nNum g w v l a false h hok
  rw [stepV_false num_zero, hx] at this
  exact this.mono fun e w' ⟨h1, h2, h3⟩ => ⟨h1, rd_ok h2 hk, h3⟩
theorem nSigned_ok (g : Nat) (w : World) (v : Value) (l : List Int) (a : Nat) (x : Int) (k : Nat) (h : Rd g w v l a false) (hok : Byt.Ok l) (hx : sgnL (l.drop a) = (x, k)) (hk : k ≠ 0) :
    Calls Try.prog 102 #[.pointer (some ⟨g, 0, none⟩)] w fun e w' => e = .returned (.int .i64 x) ∧ Rd g w' v l (a + k) false ∧ But g w w' := by
  have := nSigned g w v l a false h hok
  rw [stepV_false sgn_zero, hx] at this
  exact this.mono fun e w' ⟨h1, h2, h3⟩ => ⟨h1, rd_ok h2 hk, h3⟩
theorem nText_ok (g : Nat) (w : World) (v : Value) (l : List Int) (a : Nat) (x : List Int) (k : Nat) (h : Rd g w v l a false) (hok : Byt.Ok l) (hx : textL (l.drop a) = (x, k)) (hk : k ≠ 0) :
    Calls Try.prog 51 #[.pointer (some ⟨g, 0, none⟩)] w fun e w' => e = .returned (.string (strOfNums x)) ∧ Rd g w' v l (a + k) false ∧ But g w w' := by
  have := nText g w v l a false h hok
  rw [stepV_false text_zero, hx] at this
  exact this.mono fun e w' ⟨h1, h2, h3⟩ => ⟨h1, rd_ok h2 hk, h3⟩

theorem nNum_bad (g : Nat) (w : World) (v : Value) (l : List Int) (a : Nat) (h : Rd g w v l a true) (hok : Byt.Ok l) :
    Calls Try.prog 45 #[.pointer (some ⟨g, 0, none⟩)] w fun e w' => e = .returned (.int .i64 0) ∧ Rd g w' v l a true ∧ But g w w' := by
  have := nNum g w v l a true h hok
  rw [stepV_true] at this
  exact this
theorem nNum_no (g : Nat) (w : World) (v : Value) (l : List Int) (a : Nat) (h : Rd g w v l a false) (hok : Byt.Ok l) (hk : (numL (l.drop a)).2 = 0) :
    Calls Try.prog 45 #[.pointer (some ⟨g, 0, none⟩)] w fun e w' => e = .returned (.int .i64 0) ∧ Rd g w' v l a true ∧ But g w w' := by
  have := nNum g w v l a false h hok
  rw [stepV_false num_zero, num_zero hk] at this
  exact this.mono fun e w' ⟨h1, h2, h3⟩ => ⟨h1, rd_no h2 hk, h3⟩

theorem nSigned_bad (g : Nat) (w : World) (v : Value) (l : List Int) (a : Nat) (h : Rd g w v l a true) (hok : Byt.Ok l) :
    Calls Try.prog 102 #[.pointer (some ⟨g, 0, none⟩)] w fun e w' => e = .returned (.int .i64 0) ∧ Rd g w' v l a true ∧ But g w w' := by
  have := nSigned g w v l a true h hok
  rw [stepV_true] at this
  exact this
theorem nSigned_no (g : Nat) (w : World) (v : Value) (l : List Int) (a : Nat) (h : Rd g w v l a false) (hok : Byt.Ok l) (hk : (sgnL (l.drop a)).2 = 0) :
    Calls Try.prog 102 #[.pointer (some ⟨g, 0, none⟩)] w fun e w' => e = .returned (.int .i64 0) ∧ Rd g w' v l a true ∧ But g w w' := by
  have := nSigned g w v l a false h hok
  rw [stepV_false sgn_zero, sgn_zero hk] at this
  exact this.mono fun e w' ⟨h1, h2, h3⟩ => ⟨h1, rd_no h2 hk, h3⟩

theorem nText_bad (g : Nat) (w : World) (v : Value) (l : List Int) (a : Nat) (h : Rd g w v l a true) (hok : Byt.Ok l) :
    Calls Try.prog 51 #[.pointer (some ⟨g, 0, none⟩)] w fun e w' => e = .returned (.string ⟨#[]⟩) ∧ Rd g w' v l a true ∧ But g w w' := by
  have := nText g w v l a true h hok
  rw [stepV_true] at this
  exact this
theorem nText_no (g : Nat) (w : World) (v : Value) (l : List Int) (a : Nat) (h : Rd g w v l a false) (hok : Byt.Ok l) (hk : (textL (l.drop a)).2 = 0) :
    Calls Try.prog 51 #[.pointer (some ⟨g, 0, none⟩)] w fun e w' => e = .returned (.string ⟨#[]⟩) ∧ Rd g w' v l a true ∧ But g w w' := by
  have := nText g w v l a false h hok
  rw [stepV_false text_zero, text_zero hk] at this
  exact this.mono fun e w' ⟨h1, h2, h3⟩ => ⟨h1, rd_no h2 hk, h3⟩

theorem nBad (g : Nat) (w : World) (v : Value) (l : List Int) (a : Nat) (bad : Bool) (h : Rd g w v l a bad) :
    Calls Try.prog 48 #[.pointer (some ⟨g, 0, none⟩)] w fun e w' => e = .returned (.bool bad) ∧ w' = w := by
  obtain ⟨a', h, _⟩ := h
  exact bad_c g w v l a' bad h
/-- How many bytes are ahead. -/
def leftL (l : List Int) (a : Nat) (bad : Bool) : Nat := if bad then 0 else l.length - a
set_option maxHeartbeats 1000000 in
theorem nLeft (g : Nat) (w : World) (v : Value) (l : List Int) (a : Nat) (bad : Bool) (h : Rd g w v l a bad) :
    Calls Try.prog 47 #[.pointer (some ⟨g, 0, none⟩)] w fun e w' => e = .returned (.int .i64 ((leftL l a bad : Nat) : Int)) ∧ Drawn0 w w' := by
  obtain ⟨a', h, ha⟩ := h
  have H := Aside0.mk h
  clear h
  cases bad with
  | true =>
    clear ha
    go_enter Try.func47, Try.ntmps47
    go_wp2_with fail
    refine (bad_c g _ v l a' true H.out).mono ?_
    rintro e w' ⟨rfl, rfl⟩
    go_wp2_with fail
    go_ret
    exact ⟨rfl, ⟨0, rfl⟩⟩
  | false =>
    obtain rfl := ha rfl
    clear ha
    obtain ⟨q, hq⟩ : ∃ q, q = l.length - a' := ⟨_, rfl⟩
    have HQ := Aside0.mk hq
    have hc := fun w => ahead_c g w v l a' false
    rw [← hq] at hc
    clear hq
    go_enter Try.func47, Try.ntmps47
    go_wp2_with fail
    refine (bad_c g _ v l a' false H.out).mono ?_
    rintro e w' ⟨rfl, rfl⟩
    go_wp2_with fail
    refine (hc _ H.out).mono ?_
    rintro e w' ⟨rfl, n, rfl⟩
    go_wp2_with fail
    go_ret
    exact ⟨by unfold leftL; rw [if_neg (by simp), ← HQ.out]; rfl, ⟨n, rfl⟩⟩
set_option maxHeartbeats 1000000 in
theorem nDone (g : Nat) (w : World) (v : Value) (l : List Int) (a : Nat) (bad : Bool) (h : Rd g w v l a bad) :
    Calls Try.prog 52 #[.pointer (some ⟨g, 0, none⟩)] w fun e w' => e = .returned (.bool (!bad && decide (l.length - a = 0))) ∧ Drawn0 w w' := by
  obtain ⟨a', h, ha⟩ := h
  have H := Aside0.mk h
  clear h
  cases bad with
  | true =>
    clear ha
    go_enter Try.func52, Try.ntmps52
    go_wp2_with fail
    refine (bad_c g _ v l a' true H.out).mono ?_
    rintro e w' ⟨rfl, rfl⟩
    go_wp2_with fail
    go_ret
    exact ⟨rfl, ⟨0, rfl⟩⟩
  | false =>
    obtain rfl := ha rfl
    clear ha
    obtain ⟨q, hq⟩ : ∃ q, q = l.length - a' := ⟨_, rfl⟩
    have HQ := Aside0.mk hq
    have hc := fun w => ahead_c g w v l a' false
    rw [← hq] at hc
    clear hq
    by_cases hz : q = 0
    · subst hz
      go_enter Try.func52, Try.ntmps52
      go_wp2_with fail
      refine (bad_c g _ v l a' false H.out).mono ?_
      rintro e w' ⟨rfl, rfl⟩
      go_wp2_with fail
      refine (hc _ H.out).mono ?_
      rintro e w' ⟨rfl, n, rfl⟩
      go_wp2_with fail
      go_ret
      exact ⟨by rw [← HQ.out]; rfl, ⟨n, rfl⟩⟩
    · have hz2 : ((q : Int) == 0) = false := by simp; omega
      have HZ := Aside0.mk hz
      clear hz
      go_enter Try.func52, Try.ntmps52
      go_wp2_with fail
      refine (bad_c g _ v l a' false H.out).mono ?_
      rintro e w' ⟨rfl, rfl⟩
      go_wp2_with fail
      refine (hc _ H.out).mono ?_
      rintro e w' ⟨rfl, n, rfl⟩
      go_wp2_with fail
      go_ret
      exact ⟨by rw [← HQ.out, decide_eq_false HZ.out]; rfl, ⟨n, rfl⟩⟩
set_option maxHeartbeats 1000000 in
theorem nRead (w : World) (v : Value) (l : List Int) (h : Sl w v l) (hl : l.length ≤ 140737488355000) :
    Calls Try.prog 44 #[v] w fun e w' => e = .returned (.pointer (some ⟨w.heap.size, 0, none⟩)) ∧ Rd w.heap.size w' v l 0 false ∧ Below w.heap.size w w' ∧ w'.heap.size = w.heap.size + 1 := by
  have H := Aside0.mk h
  have HL := Aside0.mk hl
  obtain ⟨A, c, rfl, hc, hC⟩ := h
  clear hC hl
  go_enter Try.func44, Try.ntmps44
  go_wp2_with fail
  go_ret
  exact ⟨rfl, ⟨0, ⟨by rw [Own.heap_new]; rfl, H.out.alloc _, Nat.zero_le _, HL.out⟩, fun _ => rfl⟩, below_alloc (Below.refl _ _) _, by show (w.heap.push _).size = _; simp⟩
end Go.Proofs.Ytedfcjcnhgomoaa.VaryR
end
-- MERGED YtedfcjcnhgomoaaOpens
section
/- Arguments of any shape, opened: what a datum's cells read as, by the kind of its type. -/
namespace Go.Proofs.Ytedfcjcnhgomoaa.Opens
open Go.ChangeShapes Go.WideShapes Go.Deep Go.RowKit Go.Proofs.YtedfcjcnhgomoaaW.PrintWords

/-- What is read as a datum of type t has cells of the kind d, and what they say is right. -/
def Opens {α : Type} (P : Program) (t : TypeId) (d : Kd α) (ok : α → Prop) : Prop :=
  P.cellsOf t = d.sz ∧ ∀ (H : Type) (enc : TypeId × Value → H) (w : World) (base : Nat) (sp : Nat → Bool) (held : Bool) (fuel : Nat) (cs : List Value) (x : DataW H × List MemPlace),
    DataW.trod enc P w base sp held fuel t cs = some x → ∃ a : α, d.K w a cs ∧ ok a
theorem list_of {α : Type} (Q : Nat → α → Prop) : ∀ len : Nat, (∀ i, i < len → ∃ x, Q i x) → ∃ l : List α, l.length = len ∧ ∀ i x, l[i]? = some x → Q i x
  | 0, _ => ⟨[], rfl, fun i x hx => by simp at hx⟩
  | k + 1, each => by
    obtain ⟨l, hl, hf⟩ := list_of Q k (fun i hi => each i (by omega))
    obtain ⟨x, h1⟩ := each k (by omega)
    refine ⟨l ++ [x], by simp [hl], fun i y hy => ?_⟩
    by_cases hik : i < l.length
    · rw [List.getElem?_append_left hik] at hy
      exact hf i y hy
    · rw [List.getElem?_append_right (by omega)] at hy
      have hi0 : i - l.length = 0 := by
        rcases Nat.eq_zero_or_pos (i - l.length) with h | h
        · exact h
        · rw [List.getElem?_eq_none (by simp; omega)] at hy; cases hy
      rw [hi0] at hy
      obtain rfl : x = y := by simpa using hy
      obtain rfl : i = k := by omega
      exact h1
section
variable {P : Program} {t e : TypeId} {α β γ δ : Type}
theorem int_ {k : IntKind} (ht : P.underlying t = some (.int k)) (hc : P.cellsOf t = 1) : Opens P t (Kd.int k) (fun n => (Lit.int k n).wf = true) :=
  ⟨hc, fun _ _ _ _ _ _ _ _ _ h => by
    obtain ⟨n, rfl, _, hw⟩ := DataW.trod_int ht h
    exact ⟨n, rfl, hw⟩⟩
theorem string_ (ht : P.underlying t = some .string) (hc : P.cellsOf t = 1) : Opens P t Kd.string (fun s => s.size ≤ maxLen) :=
  ⟨hc, fun _ _ _ _ _ _ _ _ _ h => by
    obtain ⟨n, rfl, _, hw⟩ := DataW.trod_string ht h
    exact ⟨n, rfl, hw⟩⟩
theorem bool_ (ht : P.underlying t = some .bool) (hc : P.cellsOf t = 1) : Opens P t Kd.bool (fun _ => True) :=
  ⟨hc, fun _ _ _ _ _ _ _ _ _ h => by
    obtain ⟨n, rfl, _⟩ := DataW.trod_bool ht h
    exact ⟨n, rfl, trivial⟩⟩
theorem slice_ {d : Kd α} {ok : α → Prop} (ht : P.underlying t = some (.slice e)) (hc : P.cellsOf t = 1) (he : Opens P e d ok) : Opens P t (Kd.slice e d) (fun l => l.length ≤ maxLen ∧ ∀ x ∈ l, ok x) := by
  refine ⟨hc, fun H enc w base sp held fuel cs x h => ?_⟩
  rcases open_slice ht h with ⟨rfl, _⟩ | ⟨a, len, cap, m, n, D, Pl, rfl, hb, hl, hm, hmm, _, hi⟩
  · refine ⟨[], ⟨none, 0, rfl, Nat.le_refl _, rfl, Nat.zero_le _, fun h => absurd h (by simp)⟩, Nat.zero_le _, fun _ h => by cases h⟩
  · have hlm : len ≤ m := by rw [hmm]; split <;> omega
    have each : ∀ i, i < len → ∃ (x : α) (cs' : List Value), w.cells? base (a.add (i * P.cellsOf e)) (P.cellsOf e) = some cs' ∧ d.K w x cs' ∧ ok x := by
      intro i hlt
      obtain ⟨cs', h1, h2⟩ := hi i (by omega)
      obtain ⟨x, h3, h4⟩ := he.2 H enc w base sp held n cs' _ h2
      exact ⟨x, cs', h1, h3, h4⟩
    have hex := list_of (fun i x => ∃ cs' : List Value, w.cells? base (a.add (i * P.cellsOf e)) (P.cellsOf e) = some cs' ∧ d.K w x cs' ∧ ok x) len each
    obtain ⟨l, hll, hf⟩ := hex
    subst hll
    refine ⟨l, ⟨some a, cap, rfl, hl, rfl, ?_, fun _ => ⟨a, rfl, fun j p hj => ?_⟩⟩, by omega, fun x hx => ?_⟩
    · unfold maxLen at hm; omega
    · obtain ⟨cs', h1, h2, _⟩ := hf j p hj
      obtain ⟨_, h3, h4⟩ := World.cells?_some h1
      refine ⟨cs', d.K_len h2, h2, fun i u hu => ?_⟩
      have hil : i < P.cellsOf e := by
        have := (List.getElem?_eq_some_iff.1 hu).1
        omega
      rw [← Go.Deep.add_add, ← he.1, h4 i hil, hu]
    · obtain ⟨i, hi⟩ := List.getElem?_of_mem hx
      obtain ⟨_, _, _, h⟩ := hf i x hi
      exact h
theorem struct2_ {d0 : Kd α} {d1 : Kd β} {ok0 : α → Prop} {ok1 : β → Prop} {f0 f1 : Field} (ht : P.underlying t = some (.struct #[f0, f1])) (hc : P.cellsOf t = d0.sz + d1.sz) (h0 : Opens P f0.type d0 ok0) (h1 : Opens P f1.type d1 ok1) (o0 : f0.offset = 0) (o1 : f1.offset = d0.sz) :
    Opens P t (Kd.pair d0 d1) (fun x => ok0 x.1 ∧ ok1 x.2) := by
  refine ⟨hc, fun H enc w base sp held fuel cs x h => ?_⟩
  obtain ⟨ys, n, _, _, hl, hyl, hf⟩ := DataW.trod_struct ht h
  have g0 := hf 0 f0 rfl
  have g1 := hf 1 f1 rfl
  simp only [List.size_toArray, List.length_cons, List.length_nil] at hyl
  rw [List.getElem?_eq_getElem (by omega)] at g0 g1
  obtain ⟨a, ka, oa⟩ := h0.2 _ _ _ _ _ _ _ _ _ g0
  obtain ⟨b, kb, ob⟩ := h1.2 _ _ _ _ _ _ _ _ _ g1
  refine ⟨(a, b), ⟨_, _, ?_, ka, kb⟩, oa, ob⟩
  rw [o0, o1, h0.1, h1.1, List.drop_zero]
  rw [hc] at hl
  have e1 : (cs.drop d0.sz).take d1.sz = cs.drop d0.sz := List.take_of_length_le (by rw [List.length_drop]; omega)
  rw [e1, List.take_append_drop]
theorem struct3_ {d0 : Kd α} {d1 : Kd β} {d2 : Kd γ} {ok0 : α → Prop} {ok1 : β → Prop} {ok2 : γ → Prop} {f0 f1 f2 : Field} (ht : P.underlying t = some (.struct #[f0, f1, f2])) (hc : P.cellsOf t = d0.sz + (d1.sz + d2.sz)) (h0 : Opens P f0.type d0 ok0) (h1 : Opens P f1.type d1 ok1) (h2 : Opens P f2.type d2 ok2)
    (o0 : f0.offset = 0) (o1 : f1.offset = d0.sz) (o2 : f2.offset = d0.sz + d1.sz) : Opens P t (Kd.pair d0 (Kd.pair d1 d2)) (fun x => ok0 x.1 ∧ ok1 x.2.1 ∧ ok2 x.2.2) := by
  refine ⟨hc, fun H enc w base sp held fuel cs x h => ?_⟩
  obtain ⟨ys, n, _, _, hl, hyl, hf⟩ := DataW.trod_struct ht h
  have g0 := hf 0 f0 rfl
  have g1 := hf 1 f1 rfl
  have g2 := hf 2 f2 rfl
  simp only [List.size_toArray, List.length_cons, List.length_nil] at hyl
  rw [List.getElem?_eq_getElem (by omega)] at g0 g1 g2
  obtain ⟨a, ka, oa⟩ := h0.2 _ _ _ _ _ _ _ _ _ g0
  obtain ⟨b, kb, ob⟩ := h1.2 _ _ _ _ _ _ _ _ _ g1
  obtain ⟨c, kc, oc⟩ := h2.2 _ _ _ _ _ _ _ _ _ g2
  refine ⟨(a, b, c), ⟨_, _, ?_, ka, _, _, rfl, kb, kc⟩, oa, ob, oc⟩
  rw [o0, o1, o2, h0.1, h1.1, h2.1, List.drop_zero]
  rw [hc] at hl
  have e1 : (cs.drop (d0.sz + d1.sz)).take d2.sz = cs.drop (d0.sz + d1.sz) := List.take_of_length_le (by rw [List.length_drop]; omega)
  rw [e1, ← List.drop_drop, List.take_append_drop, List.take_append_drop]
theorem struct4_ {d0 : Kd α} {d1 : Kd β} {d2 : Kd γ} {d3 : Kd δ} {ok0 : α → Prop} {ok1 : β → Prop} {ok2 : γ → Prop} {ok3 : δ → Prop} {f0 f1 f2 f3 : Field} (ht : P.underlying t = some (.struct #[f0, f1, f2, f3])) (hc : P.cellsOf t = d0.sz + (d1.sz + (d2.sz + d3.sz)))
    (h0 : Opens P f0.type d0 ok0) (h1 : Opens P f1.type d1 ok1) (h2 : Opens P f2.type d2 ok2) (h3 : Opens P f3.type d3 ok3) (o0 : f0.offset = 0) (o1 : f1.offset = d0.sz) (o2 : f2.offset = d0.sz + d1.sz) (o3 : f3.offset = d0.sz + d1.sz + d2.sz) :
    Opens P t (Kd.pair d0 (Kd.pair d1 (Kd.pair d2 d3))) (fun x => ok0 x.1 ∧ ok1 x.2.1 ∧ ok2 x.2.2.1 ∧ ok3 x.2.2.2) := by
  refine ⟨hc, fun H enc w base sp held fuel cs x h => ?_⟩
  obtain ⟨ys, n, _, _, hl, hyl, hf⟩ := DataW.trod_struct ht h
  have g0 := hf 0 f0 rfl
  have g1 := hf 1 f1 rfl
  have g2 := hf 2 f2 rfl
  have g3 := hf 3 f3 rfl
  simp only [List.size_toArray, List.length_cons, List.length_nil] at hyl
  rw [List.getElem?_eq_getElem (by omega)] at g0 g1 g2 g3
  obtain ⟨a, ka, oa⟩ := h0.2 _ _ _ _ _ _ _ _ _ g0
  obtain ⟨b, kb, ob⟩ := h1.2 _ _ _ _ _ _ _ _ _ g1
  obtain ⟨c, kc, oc⟩ := h2.2 _ _ _ _ _ _ _ _ _ g2
  obtain ⟨q, kq, oq⟩ := h3.2 _ _ _ _ _ _ _ _ _ g3
  refine ⟨(a, b, c, q), ⟨_, _, ?_, ka, _, _, rfl, kb, _, _, rfl, kc, kq⟩, oa, ob, oc, oq⟩
  rw [o0, o1, o2, o3, h0.1, h1.1, h2.1, h3.1, List.drop_zero]
  rw [hc] at hl
  have e1 : (cs.drop (d0.sz + d1.sz + d2.sz)).take d3.sz = cs.drop (d0.sz + d1.sz + d2.sz) := List.take_of_length_le (by rw [List.length_drop]; omega)
  rw [e1, ← List.drop_drop (i := d2.sz), List.take_append_drop, ← List.drop_drop, List.take_append_drop, List.take_append_drop]
/-- A parameter of such a type. -/
theorem arg_ {d : Kd α} {ok : α → Prop} (ho : Opens P t d ok) {H : Type} {enc : TypeId × Value → H} {w : World} {base : Nat} {sp : Nat → Bool} {held : Bool} {v : Value} {x : DataW H} {ps : List MemPlace} (h : DataW.Trod enc P w base sp held t v x ps) : ∃ a : α, d.K w a v.cells.toList ∧ ok a := by
  obtain ⟨fuel, hf⟩ := h
  exact ho.2 _ _ _ _ _ _ _ _ _ hf
end
theorem slice_shape {α : Type} {e : Nat} {d : Kd α} {w : World} {a : Option Addr} {n c : Nat} {l : List α} (h : (Kd.slice e d).K w l (Value.slice a n c).cells.toList) : n = l.length ∧ l.length ≤ c ∧ Kd.C d w a l.length l := by
  obtain ⟨A, c', e1, hc, hC⟩ := h
  simp only [Value.cells, List.cons.injEq, Value.slice.injEq] at e1
  obtain ⟨⟨rfl, rfl, rfl⟩, _⟩ := e1
  exact ⟨rfl, hc, hC⟩
end Go.Proofs.Ytedfcjcnhgomoaa.Opens
end
